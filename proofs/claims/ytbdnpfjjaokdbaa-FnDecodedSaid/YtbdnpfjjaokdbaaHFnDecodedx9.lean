-- Laid by myprint.py, a program of this repo, out of the kit's printer and this repo's own texts (wip/hand).
import Derived.Test.YtbdnpfjjaokdbaaHFnDecodedx0
import Derived.Test.YtbdnpfjjaokdbaaHFnDecodedx1
import Derived.Test.YtbdnpfjjaokdbaaHFnDecodedx2
import Derived.Test.YtbdnpfjjaokdbaaHFnDecodedx3
import Derived.Test.YtbdnpfjjaokdbaaHFnDecodedx8
namespace Go.Proofs.Ytbdnpfjjaokdbaa.HFnDecoded
open Go.RowKit Go.Proofs.YtbdnpfjjaokdbaaW.PrintWords Go.Proofs.YtbdnpfjjaokdbaaW.PrintLast Go.Proofs.YtbdnpfjjaokdbaaW.PrintMore
attribute [local go_sem] max2_int min2_int max_two min_two max_three min_three max_four min_four   -- for this text's walks alone
set_option linter.unusedVariables false
set_option linter.unusedSimpArgs false
theorem Ja : type_of% @Aside0.mk := @Aside0.mk
theorem Jb : type_of% @Kd.R_drew := @Kd.R_drew
theorem Jc : type_of% @blk_drew := @blk_drew
theorem Jd : type_of% @below_set := @below_set
theorem Je : type_of% @pw_below_drewN := @pw_below_drewN
theorem Jf : type_of% @Kd.R_alloc := @Kd.R_alloc
theorem Jg : type_of% @Kd.R_drewN := @Kd.R_drewN
theorem Jh : type_of% @blk_alloc := @blk_alloc
theorem Ji : type_of% @blk_drewN := @blk_drewN
theorem Jj : type_of% @below_drew1 := @below_drew1
theorem Jk : type_of% @below_alloc := @below_alloc
theorem Jl : type_of% @blk_frozen := @blk_frozen
theorem Jm : type_of% @Kd.R_reads' := @Kd.R_reads'
theorem Jn : type_of% @blk_cell := @blk_cell
theorem Jo : type_of% @blk_below := @blk_below

/-! ### spec_Encode: function 41 -/
mutual
def spec_Encode.j0 : Nat → Int → List Int → Bool → Int → Int → List Int → Int → Int → List Int → Option (List Int × Bool)
 | 0, _, _, _, _, _, _, _, _, _ => none
 | k + 1, x2, x8, x28, x221000, x221001, x221002, x222000, x222001, x222002 => if x28 = true then (some (x8, false)) else (spec_Encode.l0 k x2 x8 0 x221000 x221001 x221002 x222000 x222001 x222002)
def spec_Encode.l0 : Nat → Int → List Int → Int → Int → Int → List Int → Int → Int → List Int → Option (List Int × Bool)
 | 0, _, _, _, _, _, _, _, _, _ => none
 | k + 1, x2, x8, x9, x221000, x221001, x221002, x222000, x222001, x222002 => (spec_l14Blocks.f x222000 x222001 x222002).bind fun t227 => (if x9 < t227 then ((spec_l14Motion.f k x221000 x221001 x221002 x222000 x222001 x222002 x9).bind fun bt228 => (if x8.length < 140737488355328 then ((spec_l14Block.f k x222000 x222001 x222002 x9 0 0).bind fun zk => ((spec_l14Block.f k x221000 x221001 x221002 x9 bt228.1 bt228.2).bind fun qt => (spec_Encode.l1 k x2 (x8 ++ [(wrap64 ((wrap64 ((wrap64 (8 * (wrap64 (bt228.2 + 2)))) + bt228.1)) + 2)) % 256]) x9 zk qt 0 x221000 x221001 x221002 x222000 x222001 x222002))) else (none))) else (some (x8, true)))
def spec_Encode.l1 : Nat → Int → List Int → Int → List Int → List Int → Int → Int → Int → List Int → Int → Int → List Int → Option (List Int × Bool)
 | 0, _, _, _, _, _, _, _, _, _, _, _, _ => none
 | k + 1, x2, x8, x9, x12, x13, x14, x221000, x221001, x221002, x222000, x222001, x222002 => if x14 < 16 then (if 0 ≤ x14 then (if x14 < (x12.length : Int) then (if x14 < (x13.length : Int) then (spec_Encode.l1 k x2 x8 x9 (x12.set (x14 : Int).toNat (wrap64 ((rd x12 x14) - (rd x13 x14)))) x13 (wrap64 (x14 + 1)) x221000 x221001 x221002 x222000 x222001 x222002) else (none)) else (none)) else (none)) else ((spec_l14Turn.f k x12).bind fun t242 => (spec_Encode.l2 k x2 x8 x9 t242 0 0 x221000 x221001 x221002 x222000 x222001 x222002))
def spec_Encode.l2 : Nat → Int → List Int → Int → List Int → Int → Int → Int → Int → List Int → Int → Int → List Int → Option (List Int × Bool)
 | 0, _, _, _, _, _, _, _, _, _, _, _, _ => none
 | k + 1, x2, x8, x9, x12, x15, x16, x221000, x221001, x221002, x222000, x222001, x222002 => if x16 < 16 then (if 0 ≤ x16 then (if x16 < (x12.length : Int) then ((spec_l9Round.f (rd x12 x16) (wrap64 (16 * x2))).bind fun zu => ((some (x12.set (x16 : Int).toNat zu : List Int)).bind fun qv => (if (rd qv x16) = 0 then (spec_Encode.l2 k x2 x8 x9 qv x15 (wrap64 (x16 + 1)) x221000 x221001 x221002 x222000 x222001 x222002) else (spec_Encode.l2 k x2 x8 x9 qv (wrap64 (x16 + 1)) (wrap64 (x16 + 1)) x221000 x221001 x221002 x222000 x222001 x222002)))) else (none)) else (none)) else (if x8.length < 140737488355328 then (spec_Encode.l3 k x2 (x8 ++ [(x15) % 256]) x9 x12 x15 0 x221000 x221001 x221002 x222000 x222001 x222002) else (none))
def spec_Encode.l3 : Nat → Int → List Int → Int → List Int → Int → Int → Int → Int → List Int → Int → Int → List Int → Option (List Int × Bool)
 | 0, _, _, _, _, _, _, _, _, _, _, _, _ => none
 | k + 1, x2, x8, x9, x12, x15, x17, x221000, x221001, x221002, x222000, x222001, x222002 => if x17 < x15 then (if 0 ≤ x17 then (if x17 < (x12.length : Int) then (if (rd x12 x17) < 0 then (if (wrap64 ((wrap64 ((-2) * (rd x12 x17))) - 1)) < 255 then (if x8.length < 140737488355328 then (spec_Encode.l3 k x2 (x8 ++ [(wrap64 ((wrap64 ((-2) * (rd x12 x17))) - 1)) % 256]) x9 x12 x15 (wrap64 (x17 + 1)) x221000 x221001 x221002 x222000 x222001 x222002) else (none)) else ((some (([255, (wrap64 (Int.tdiv (wrap64 ((wrap64 ((-2) * (rd x12 x17))) - 1)) 256)) % 256, (Int.tmod (wrap64 ((wrap64 ((-2) * (rd x12 x17))) - 1)) 256) % 256] : List Int) : List Int)).bind fun y258 => (if x8.length + y258.length < 140737488355328 then (spec_Encode.l3 k x2 (x8 ++ y258) x9 x12 x15 (wrap64 (x17 + 1)) x221000 x221001 x221002 x222000 x222001 x222002) else (none)))) else (if (wrap64 (2 * (rd x12 x17))) < 255 then (if x8.length < 140737488355328 then (spec_Encode.l3 k x2 (x8 ++ [(wrap64 (2 * (rd x12 x17))) % 256]) x9 x12 x15 (wrap64 (x17 + 1)) x221000 x221001 x221002 x222000 x222001 x222002) else (none)) else ((some (([255, (wrap64 (Int.tdiv (wrap64 (2 * (rd x12 x17))) 256)) % 256, (Int.tmod (wrap64 (2 * (rd x12 x17))) 256) % 256] : List Int) : List Int)).bind fun y267 => (if x8.length + y267.length < 140737488355328 then (spec_Encode.l3 k x2 (x8 ++ y267) x9 x12 x15 (wrap64 (x17 + 1)) x221000 x221001 x221002 x222000 x222001 x222002) else (none))))) else (none)) else (none)) else (spec_Encode.l0 k x2 x8 (wrap64 (x9 + 1)) x221000 x221001 x221002 x222000 x222001 x222002)
end
def spec_Encode.f (k : Nat) (a0_0 : Int) (a0_1 : Int) (l0_2 : List Int) (a1_0 : Int) (a1_1 : Int) (l1_2 : List Int) (a2 : Int) : Option (List Int × Bool) := (some (([] : List Int) : List Int)).bind fun qz => ((spec_l14Two.f k a0_0 a0_1 l0_2 a1_0 a1_1 l1_2).bind fun t225 => (if t225 = true then ((spec_l1In.f a2 1 64).bind fun zi => (spec_Encode.j0 k a2 qz (!zi) a0_0 a0_1 l0_2 a1_0 a1_1 l1_2)) else (spec_Encode.j0 k a2 qz true a0_0 a0_1 l0_2 a1_0 a1_1 l1_2)))
theorem spec_Encode.mono_l : ∀ k, (∀ y0 y1 y2 y3 y4 y5 y6 y7 y8, LeO (spec_Encode.j0 k y0 y1 y2 y3 y4 y5 y6 y7 y8) (spec_Encode.j0 (k + 1) y0 y1 y2 y3 y4 y5 y6 y7 y8)) ∧ (∀ y0 y1 y2 y3 y4 y5 y6 y7 y8, LeO (spec_Encode.l0 k y0 y1 y2 y3 y4 y5 y6 y7 y8) (spec_Encode.l0 (k + 1) y0 y1 y2 y3 y4 y5 y6 y7 y8)) ∧ (∀ y0 y1 y2 y3 y4 y5 y6 y7 y8 y9 y10 y11, LeO (spec_Encode.l1 k y0 y1 y2 y3 y4 y5 y6 y7 y8 y9 y10 y11) (spec_Encode.l1 (k + 1) y0 y1 y2 y3 y4 y5 y6 y7 y8 y9 y10 y11)) ∧ (∀ y0 y1 y2 y3 y4 y5 y6 y7 y8 y9 y10 y11, LeO (spec_Encode.l2 k y0 y1 y2 y3 y4 y5 y6 y7 y8 y9 y10 y11) (spec_Encode.l2 (k + 1) y0 y1 y2 y3 y4 y5 y6 y7 y8 y9 y10 y11)) ∧ (∀ y0 y1 y2 y3 y4 y5 y6 y7 y8 y9 y10 y11, LeO (spec_Encode.l3 k y0 y1 y2 y3 y4 y5 y6 y7 y8 y9 y10 y11) (spec_Encode.l3 (k + 1) y0 y1 y2 y3 y4 y5 y6 y7 y8 y9 y10 y11))
 | 0 => ⟨fun _ _ _ _ _ _ _ _ _ r h => by simp [spec_Encode.j0] at h, fun _ _ _ _ _ _ _ _ _ r h => by simp [spec_Encode.l0] at h, fun _ _ _ _ _ _ _ _ _ _ _ _ r h => by simp [spec_Encode.l1] at h, fun _ _ _ _ _ _ _ _ _ _ _ _ r h => by simp [spec_Encode.l2] at h, fun _ _ _ _ _ _ _ _ _ _ _ _ r h => by simp [spec_Encode.l3] at h⟩
 | k + 1 => by
  obtain⟨ih0,ih1,ih2,ih3,ih4⟩:=spec_Encode.mono_l k
  refine⟨?_,?_,?_,?_,?_⟩
  ·intro y0 y1 y2 y3 y4 y5 y6 y7 y8
   unfold spec_Encode.j0
   repeat' first
   | (with_reducible exact ih0 _ _ _ _ _ _ _ _ _)
   | (with_reducible exact ih1 _ _ _ _ _ _ _ _ _)
   | (with_reducible exact ih2 _ _ _ _ _ _ _ _ _ _ _ _)
   | (with_reducible exact ih3 _ _ _ _ _ _ _ _ _ _ _ _)
   | (with_reducible exact ih4 _ _ _ _ _ _ _ _ _ _ _ _)
   | (with_reducible exact spec_l14Block.mono _ _ _ _ _ _ _)
   | (with_reducible exact spec_l14Motion.mono _ _ _ _ _ _ _ _)
   | (with_reducible exact spec_l14Turn.mono _ _)
   | (with_reducible exact spec_l14Two.mono _ _ _ _ _ _ _)
   | (with_reducible exact LeO.refl _)
   | (with_reducible exact LeO.none _)
   | (with_reducible refine LeO.ite ?_ ?_)
   | (with_reducible refine LeO.bind ?_ (fun _ => ?_))
   | exact ih0 _ _ _ _ _ _ _ _ _
   | exact ih1 _ _ _ _ _ _ _ _ _
   | exact ih2 _ _ _ _ _ _ _ _ _ _ _ _
   | exact ih3 _ _ _ _ _ _ _ _ _ _ _ _
   | exact ih4 _ _ _ _ _ _ _ _ _ _ _ _
   | exact spec_l14Block.mono _ _ _ _ _ _ _
   | exact spec_l14Motion.mono _ _ _ _ _ _ _ _
   | exact spec_l14Turn.mono _ _
   | exact spec_l14Two.mono _ _ _ _ _ _ _
   | exact LeO.none _
   | refine LeO.ite ?_ ?_
   | refine LeO.bind ?_ (fun _ => ?_)
  ·intro y0 y1 y2 y3 y4 y5 y6 y7 y8
   unfold spec_Encode.l0
   repeat' first
   | (with_reducible exact ih0 _ _ _ _ _ _ _ _ _)
   | (with_reducible exact ih1 _ _ _ _ _ _ _ _ _)
   | (with_reducible exact ih2 _ _ _ _ _ _ _ _ _ _ _ _)
   | (with_reducible exact ih3 _ _ _ _ _ _ _ _ _ _ _ _)
   | (with_reducible exact ih4 _ _ _ _ _ _ _ _ _ _ _ _)
   | (with_reducible exact spec_l14Block.mono _ _ _ _ _ _ _)
   | (with_reducible exact spec_l14Motion.mono _ _ _ _ _ _ _ _)
   | (with_reducible exact spec_l14Turn.mono _ _)
   | (with_reducible exact spec_l14Two.mono _ _ _ _ _ _ _)
   | (with_reducible exact LeO.refl _)
   | (with_reducible exact LeO.none _)
   | (with_reducible refine LeO.ite ?_ ?_)
   | (with_reducible refine LeO.bind ?_ (fun _ => ?_))
   | exact ih0 _ _ _ _ _ _ _ _ _
   | exact ih1 _ _ _ _ _ _ _ _ _
   | exact ih2 _ _ _ _ _ _ _ _ _ _ _ _
   | exact ih3 _ _ _ _ _ _ _ _ _ _ _ _
   | exact ih4 _ _ _ _ _ _ _ _ _ _ _ _
   | exact spec_l14Block.mono _ _ _ _ _ _ _
   | exact spec_l14Motion.mono _ _ _ _ _ _ _ _
   | exact spec_l14Turn.mono _ _
   | exact spec_l14Two.mono _ _ _ _ _ _ _
   | exact LeO.none _
   | refine LeO.ite ?_ ?_
   | refine LeO.bind ?_ (fun _ => ?_)
  ·intro y0 y1 y2 y3 y4 y5 y6 y7 y8 y9 y10 y11
   unfold spec_Encode.l1
   repeat' first
   | (with_reducible exact ih0 _ _ _ _ _ _ _ _ _)
   | (with_reducible exact ih1 _ _ _ _ _ _ _ _ _)
   | (with_reducible exact ih2 _ _ _ _ _ _ _ _ _ _ _ _)
   | (with_reducible exact ih3 _ _ _ _ _ _ _ _ _ _ _ _)
   | (with_reducible exact ih4 _ _ _ _ _ _ _ _ _ _ _ _)
   | (with_reducible exact spec_l14Block.mono _ _ _ _ _ _ _)
   | (with_reducible exact spec_l14Motion.mono _ _ _ _ _ _ _ _)
   | (with_reducible exact spec_l14Turn.mono _ _)
   | (with_reducible exact spec_l14Two.mono _ _ _ _ _ _ _)
   | (with_reducible exact LeO.refl _)
   | (with_reducible exact LeO.none _)
   | (with_reducible refine LeO.ite ?_ ?_)
   | (with_reducible refine LeO.bind ?_ (fun _ => ?_))
   | exact ih0 _ _ _ _ _ _ _ _ _
   | exact ih1 _ _ _ _ _ _ _ _ _
   | exact ih2 _ _ _ _ _ _ _ _ _ _ _ _
   | exact ih3 _ _ _ _ _ _ _ _ _ _ _ _
   | exact ih4 _ _ _ _ _ _ _ _ _ _ _ _
   | exact spec_l14Block.mono _ _ _ _ _ _ _
   | exact spec_l14Motion.mono _ _ _ _ _ _ _ _
   | exact spec_l14Turn.mono _ _
   | exact spec_l14Two.mono _ _ _ _ _ _ _
   | exact LeO.none _
   | refine LeO.ite ?_ ?_
   | refine LeO.bind ?_ (fun _ => ?_)
  ·intro y0 y1 y2 y3 y4 y5 y6 y7 y8 y9 y10 y11
   unfold spec_Encode.l2
   repeat' first
   | (with_reducible exact ih0 _ _ _ _ _ _ _ _ _)
   | (with_reducible exact ih1 _ _ _ _ _ _ _ _ _)
   | (with_reducible exact ih2 _ _ _ _ _ _ _ _ _ _ _ _)
   | (with_reducible exact ih3 _ _ _ _ _ _ _ _ _ _ _ _)
   | (with_reducible exact ih4 _ _ _ _ _ _ _ _ _ _ _ _)
   | (with_reducible exact spec_l14Block.mono _ _ _ _ _ _ _)
   | (with_reducible exact spec_l14Motion.mono _ _ _ _ _ _ _ _)
   | (with_reducible exact spec_l14Turn.mono _ _)
   | (with_reducible exact spec_l14Two.mono _ _ _ _ _ _ _)
   | (with_reducible exact LeO.refl _)
   | (with_reducible exact LeO.none _)
   | (with_reducible refine LeO.ite ?_ ?_)
   | (with_reducible refine LeO.bind ?_ (fun _ => ?_))
   | exact ih0 _ _ _ _ _ _ _ _ _
   | exact ih1 _ _ _ _ _ _ _ _ _
   | exact ih2 _ _ _ _ _ _ _ _ _ _ _ _
   | exact ih3 _ _ _ _ _ _ _ _ _ _ _ _
   | exact ih4 _ _ _ _ _ _ _ _ _ _ _ _
   | exact spec_l14Block.mono _ _ _ _ _ _ _
   | exact spec_l14Motion.mono _ _ _ _ _ _ _ _
   | exact spec_l14Turn.mono _ _
   | exact spec_l14Two.mono _ _ _ _ _ _ _
   | exact LeO.none _
   | refine LeO.ite ?_ ?_
   | refine LeO.bind ?_ (fun _ => ?_)
  ·intro y0 y1 y2 y3 y4 y5 y6 y7 y8 y9 y10 y11
   unfold spec_Encode.l3
   repeat' first
   | (with_reducible exact ih0 _ _ _ _ _ _ _ _ _)
   | (with_reducible exact ih1 _ _ _ _ _ _ _ _ _)
   | (with_reducible exact ih2 _ _ _ _ _ _ _ _ _ _ _ _)
   | (with_reducible exact ih3 _ _ _ _ _ _ _ _ _ _ _ _)
   | (with_reducible exact ih4 _ _ _ _ _ _ _ _ _ _ _ _)
   | (with_reducible exact spec_l14Block.mono _ _ _ _ _ _ _)
   | (with_reducible exact spec_l14Motion.mono _ _ _ _ _ _ _ _)
   | (with_reducible exact spec_l14Turn.mono _ _)
   | (with_reducible exact spec_l14Two.mono _ _ _ _ _ _ _)
   | (with_reducible exact LeO.refl _)
   | (with_reducible exact LeO.none _)
   | (with_reducible refine LeO.ite ?_ ?_)
   | (with_reducible refine LeO.bind ?_ (fun _ => ?_))
   | exact ih0 _ _ _ _ _ _ _ _ _
   | exact ih1 _ _ _ _ _ _ _ _ _
   | exact ih2 _ _ _ _ _ _ _ _ _ _ _ _
   | exact ih3 _ _ _ _ _ _ _ _ _ _ _ _
   | exact ih4 _ _ _ _ _ _ _ _ _ _ _ _
   | exact spec_l14Block.mono _ _ _ _ _ _ _
   | exact spec_l14Motion.mono _ _ _ _ _ _ _ _
   | exact spec_l14Turn.mono _ _
   | exact spec_l14Two.mono _ _ _ _ _ _ _
   | exact LeO.none _
   | refine LeO.ite ?_ ?_
   | refine LeO.bind ?_ (fun _ => ?_)
theorem spec_Encode.mono : ∀ a0 a1 a2 a3 a4 a5 a6 k, LeO (spec_Encode.f k a0 a1 a2 a3 a4 a5 a6) (spec_Encode.f (k + 1) a0 a1 a2 a3 a4 a5 a6) := by
 intro a0 a1 a2 a3 a4 a5 a6 k
 obtain⟨ih0,ih1,ih2,ih3,ih4⟩:=spec_Encode.mono_l k
 unfold spec_Encode.f
 repeat' first
   | (with_reducible exact ih0 _ _ _ _ _ _ _ _ _)
   | (with_reducible exact ih1 _ _ _ _ _ _ _ _ _)
   | (with_reducible exact ih2 _ _ _ _ _ _ _ _ _ _ _ _)
   | (with_reducible exact ih3 _ _ _ _ _ _ _ _ _ _ _ _)
   | (with_reducible exact ih4 _ _ _ _ _ _ _ _ _ _ _ _)
   | (with_reducible exact spec_l14Block.mono _ _ _ _ _ _ _)
   | (with_reducible exact spec_l14Motion.mono _ _ _ _ _ _ _ _)
   | (with_reducible exact spec_l14Turn.mono _ _)
   | (with_reducible exact spec_l14Two.mono _ _ _ _ _ _ _)
   | (with_reducible exact LeO.refl _)
   | (with_reducible exact LeO.none _)
   | (with_reducible refine LeO.ite ?_ ?_)
   | (with_reducible refine LeO.bind ?_ (fun _ => ?_))
   | exact ih0 _ _ _ _ _ _ _ _ _
   | exact ih1 _ _ _ _ _ _ _ _ _
   | exact ih2 _ _ _ _ _ _ _ _ _ _ _ _
   | exact ih3 _ _ _ _ _ _ _ _ _ _ _ _
   | exact ih4 _ _ _ _ _ _ _ _ _ _ _ _
   | exact spec_l14Block.mono _ _ _ _ _ _ _
   | exact spec_l14Motion.mono _ _ _ _ _ _ _ _
   | exact spec_l14Turn.mono _ _
   | exact spec_l14Two.mono _ _ _ _ _ _ _
   | exact LeO.none _
   | refine LeO.ite ?_ ?_
   | refine LeO.bind ?_ (fun _ => ?_)
def spec_Encode.T14 : Bool × List (List Nat × List Nat) := (true, [([], []), ([], []), ([], []), ([], []), ([2, 3], [2, 3]), ([4], [4]), ([], []), ([], []), ([6, 7], [6, 7]), ([8], [8]), ([5, 9], [5, 9]), ([0, 1, 0, 1, 2, 3, 4, 5, 6, 7, 8, 9, 10], [0, 1]), ([11, 10, 0, 1, 2, 3, 4, 5, 6, 7, 8, 9, 10], [10, 11])])
def spec_Encode.B14 : List Nat := [0, 0, 0, 0, 12, 28, 0, 0, 192, 448, 1020, 2047, 4095]
theorem spec_Encode.tab14 : rtab .any (opsOf Try.f41 14) = spec_Encode.T14 := by kernel_rfl
theorem spec_Encode.bits14 : waitsOk spec_Encode.T14.2 spec_Encode.B14 = true := by kernel_rfl
set_option maxHeartbeats 8000000 in
set_option maxRecDepth 100000 in
theorem spec_Encode.calls (k : Nat) (a0_0 : Int) (a0_1 : Int) (A0_2 : Option Addr) (c0_2 : Nat) (l0_2 : List Int) (a1_0 : Int) (a1_1 : Int) (A1_2 : Option Addr) (c1_2 : Nat) (l1_2 : List Int) (a2 : Int) (r1 : List Int) (r2 : Bool) (w : World) (hr0_2 : Kd.C (Kd.int .i64) w A0_2 l0_2.length l0_2) (hc0_2 : l0_2.length ≤ c0_2) (hr1_2 : Kd.C (Kd.int .i64) w A1_2 l1_2.length l1_2) (hc1_2 : l1_2.length ≤ c1_2) (h : spec_Encode.f k a0_0 a0_1 l0_2 a1_0 a1_1 l1_2 a2 = some (r1, r2)) :
  Calls Try.prog 41 #[.agg #[.int .i64 a0_0,.int .i64 a0_1,.slice A0_2 l0_2.length c0_2],.agg #[.int .i64 a1_0,.int .i64 a1_1,.slice A1_2 l1_2.length c1_2],.int .i64 a2] w fun e w'=>∃ v0_:Value,e=.returned (.tuple #[v0_,.bool r2])∧Kd.R (Kd.int .u8) 5 w' w.heap.size (fun _=>True) v0_ r1∧Below w.heap.size w w':=by
 have hu27:=Try.underlying27
 have HR0_2:=Ja hr0_2
 have HC0_2:=Ja hc0_2
 clear hr0_2 hc0_2
 have zy:=Ja hr1_2
 have zv:=Ja hc1_2
 clear hr1_2 hc1_2
 have HB:=Ja (Below.refl w.heap.size w)
 have H:((some (([]:List Int):List Int)).bind fun qz=>((spec_l14Two.f k a0_0 a0_1 l0_2 a1_0 a1_1 l1_2).bind fun t225=>(if t225=true then ((spec_l1In.f a2 1 64).bind fun zi=>(spec_Encode.j0 k a2 qz (!zi) a0_0 a0_1 l0_2 a1_0 a1_1 l1_2)) else (spec_Encode.j0 k a2 qz true a0_0 a0_1 l0_2 a1_0 a1_1 l1_2))))=some (r1,r2):=h
 clear h
 obtain⟨qz,hy222⟩:∃ y_:List Int,y_=(([]:List Int)):=⟨_,rfl⟩
 replace H:((spec_l14Two.f k a0_0 a0_1 l0_2 a1_0 a1_1 l1_2).bind fun t225=>(if t225=true then ((spec_l1In.f a2 1 64).bind fun zi=>(spec_Encode.j0 k a2 qz (!zi) a0_0 a0_1 l0_2 a1_0 a1_1 l1_2)) else (spec_Encode.j0 k a2 qz true a0_0 a0_1 l0_2 a1_0 a1_1 l1_2)))=some (r1,r2):=by first|(rw [hy222];with_reducible exact H)|(have qx:=(Option.bind_some _ _).symm.trans H;rw [hy222];with_reducible exact qx)|(have qx:=(Option.bind_some _ _).symm.trans H;with_reducible exact qx)|with_reducible exact H|(rw [hy222];exact H)|exact H
 have Ny222:=Ja hy222
 clear hy222
 have HC4:=Ja H
 clear H
 go_enter Try.func41,Try.ntmps41
 go_upto_region 2 with (first|((with_reducible refine gate_dst (N:=3) rfl ?_);refine box_event ?hg (N:=3) ?hd (cs:=#[.int .i64 a0_0,.int .i64 a0_1,.slice A0_2 l0_2.length c0_2]) (t:=27) ?hr ?_;(case hd=>rfl);(case hg=>rfl);(case hr=>first|(go_simp;done)|(go_simp;rfl));intro qk hg w5 hbox hb;have qn:=Ja (below_step (by repeat(first|(with_reducible first|exact HB.out|apply Jk|apply Je|apply Jj)|exact HB.out)) hb);have qo:=Ja (hbox);have qp:=Ja ((by rw [hg];exact(below_size (by repeat(first|(with_reducible first|exact HB.out|apply Jk|apply Je|apply Jj)|exact HB.out))):w.heap.size≤qk));have qq:=Ja ((by rw [hg];exact(below_size (by repeat(first|(with_reducible first|exact HB.out|apply Jk|apply Je|apply Jj)|exact HB.out))):w.heap.size≤qk));clear HB;have HB:=qn;have qb:=qo;have GW220:=qp;have qh:=qq;clear qn qo qp qq;clear hb hbox hg)|((with_reducible refine gate_dst (N:=4) rfl ?_);refine box_event ?hg (N:=4) ?hd (cs:=#[.int .i64 a1_0,.int .i64 a1_1,.slice A1_2 l1_2.length c1_2]) (t:=27) ?hr ?_;(case hd=>rfl);(case hg=>rfl);(case hr=>first|(go_simp;done)|(go_simp;rfl));intro qi hg w6 hbox hb;have qn:=Ja (Jo (g:=qk) (o:=.cells #[.int .i64 a0_0,.int .i64 a0_1,.slice A0_2 l0_2.length c0_2] 27 (0,0)) (by(with_reducible repeat(first|refine Ji ?_ _|refine Jc ?_|refine Jh ?_ _));exact qb.out) hb);have qo:=Ja (below_step (by repeat(first|(with_reducible first|exact HB.out|apply Jk|apply Je|apply Jj|refine Jd ?_ qh.out)|exact HB.out)) hb);have qp:=Ja (hbox);have qq:=Ja ((by rw [hg];exact(below_size (by repeat(first|(with_reducible first|exact HB.out|apply Jk|apply Je|apply Jj|refine Jd ?_ qh.out)|exact HB.out))):w.heap.size≤qi));have qs:=Ja ((by rw [hg];exact(below_size (by repeat(first|(with_reducible first|exact HB.out|apply Jk|apply Je|apply Jj|refine Jd ?_ qh.out)|exact HB.out))):w.heap.size≤qi));have zq:=Ja ((by rw [hg];exact Nat.ne_of_lt (blk_lt (g:=qk) (o:=.cells #[.int .i64 a0_0,.int .i64 a0_1,.slice A0_2 l0_2.length c0_2] 27 (0,0)) (by(with_reducible repeat(first|refine Ji ?_ _|refine Jc ?_|refine Jh ?_ _));exact qb.out)):qk≠qi));have n6_:=Ja ((by rw [hg];exact Nat.ne_of_gt (blk_lt (g:=qk) (o:=.cells #[.int .i64 a0_0,.int .i64 a0_1,.slice A0_2 l0_2.length c0_2] 27 (0,0)) (by(with_reducible repeat(first|refine Ji ?_ _|refine Jc ?_|refine Jh ?_ _));exact qb.out)):qi≠qk));clear qb;clear HB;have qb:=qn;have HB:=qo;have qa:=qp;have GW221:=qq;have qj:=qs;have yc:=zq;have yd:=n6_;clear qn qo qp qq qs zq n6_;clear hb hbox hg)|((with_reducible refine gate_dst (N:=19) rfl ?_);refine Kd.R_lit (Kd.int .u8) _ 5 ?hg (N:=19) ?hd (xs:=([]:List Int)) (inner:=[]) (ok:=fun _=>True) (okp:=fun _=>True) ?hr ?hp (fun _ hk=>hk) trivial (Below.refl _ _) (Nat.le_refl _) (by simp) ?_;(case hd=>rfl);(case hg=>rfl);(case hr=>first|(go_simp;done)|(go_simp;rfl));(case hp=>exact(Reps.none _ _));intro v223 w7 ho8 hb hg_ hnew_;clear hg_ hnew_;(first|rw [← Ny222.out] at ho8|(simp only [Int.reduceToNat] at ho8;rw [← Ny222.out] at ho8));have qn:=Ja (Kd.R_lower ho8 (below_size (by repeat(first|(with_reducible first|exact HB.out|apply Jk|apply Je|apply Jj|refine Jd ?_ qh.out|refine Jd ?_ qj.out)|exact HB.out))));have qo:=Ja (Jo (g:=qk) (o:=.cells #[.int .i64 a0_0,.int .i64 a0_1,.slice A0_2 l0_2.length c0_2] 27 (0,0)) (by(with_reducible repeat(first|refine Ji ?_ _|refine Jc ?_|refine Jh ?_ _));exact qb.out) hb);have qp:=Ja (Jo (g:=qi) (o:=.cells #[.int .i64 a1_0,.int .i64 a1_1,.slice A1_2 l1_2.length c1_2] 27 (0,0)) (by(with_reducible repeat(first|refine Ji ?_ _|refine Jc ?_|refine Jh ?_ _));exact qa.out) hb);have qq:=Ja (below_step (by repeat(first|(with_reducible first|exact HB.out|apply Jk|apply Je|apply Jj|refine Jd ?_ qh.out|refine Jd ?_ qj.out)|exact HB.out)) hb);clear qb;clear qa;clear HB;have zj:=qn;have qb:=qo;have qa:=qp;have HB:=qq;clear qn qo qp qq;clear hb ho8))
 (try simp only [Act.put,List.setIfInBounds_toArray,List.set_cons_zero,List.set_cons_succ])
 go_cut [28] (fun v28 wc=>∃ (kq:Nat) (x28_3:Bool),v28=.bool x28_3∧Aside0 (spec_Encode.j0 kq a2 qz x28_3 a0_0 a0_1 l0_2 a1_0 a1_1 l1_2=some (r1,r2))∧Aside0 (kq≤k)∧Aside0 (Kd.R (Kd.int .u8) 5 wc w.heap.size (fun _=>True) v223 qz)∧Aside0 (wc.heap[qk]? = some (.cells #[.int .i64 a0_0,.int .i64 a0_1,(.slice A0_2 l0_2.length c0_2)] 27 (0,0)))∧Aside0 (wc.heap[qi]? = some (.cells #[.int .i64 a1_0,.int .i64 a1_1,(.slice A1_2 l1_2.length c1_2)] 27 (0,0)))∧Aside0 (Below w.heap.size w wc))
 case first=>
  have H:=HC4.out
  clear HC4
  replace H:=Option.bind_eq_some_iff.mp H
  obtain⟨t225,A90,H⟩:=H
  replace H:(if t225=true then ((spec_l1In.f a2 1 64).bind fun zi=>(spec_Encode.j0 k a2 qz (!zi) a0_0 a0_1 l0_2 a1_0 a1_1 l1_2)) else (spec_Encode.j0 k a2 qz true a0_0 a0_1 l0_2 a1_0 a1_1 l1_2))=some (r1,r2):=H
  have A9:=Ja A90
  clear A90
  by_cases c10:t225=true
  ·subst c10
   have H1:((spec_l1In.f a2 1 64).bind fun zi=>(spec_Encode.j0 k a2 qz (!zi) a0_0 a0_1 l0_2 a1_0 a1_1 l1_2))=some (r1,r2):=by rw [if_pos rfl] at H;exact H
   clear H
   have H:=H1
   clear H1
   replace H:=Option.bind_eq_some_iff.mp H
   obtain⟨zi,A110,H⟩:=H
   replace H:(spec_Encode.j0 k a2 qz (!zi) a0_0 a0_1 l0_2 a1_0 a1_1 l1_2)=some (r1,r2):=H
   have A11:=Ja A110
   clear A110
   have H':=Ja H
   clear H
   have hnb12:=yc.out
   have hnc12:=yd.out
   have yj:w7.cell? ⟨qk,0,none⟩=some (.int .i64 a0_0):=(Jn qb.out 0).trans rfl
   have yk:w7.cell? ⟨qk,1,none⟩=some (.int .i64 a0_1):=(Jn qb.out 1).trans rfl
   have yl:w7.cell? ⟨qk,2,none⟩=some (.slice A0_2 l0_2.length c0_2):=(Jn qb.out 2).trans rfl
   have yv:=Jl qb.out 0
   have yw:=Jl qb.out 1
   have yx:=Jl qb.out 2
   have ym:w7.cell? ⟨qi,0,none⟩=some (.int .i64 a1_0):=(Jn qa.out 0).trans rfl
   have yn:w7.cell? ⟨qi,1,none⟩=some (.int .i64 a1_1):=(Jn qa.out 1).trans rfl
   have yo:w7.cell? ⟨qi,2,none⟩=some (.slice A1_2 l1_2.length c1_2):=(Jn qa.out 2).trans rfl
   have yy:=Jl qa.out 0
   have yz:=Jl qa.out 1
   have za:=Jl qa.out 2
   go_wp2_with (first|((with_reducible refine gate_callee (f:=66) rfl ?_);refine goesL_ (some 22) rfl rfl Try.func66 (by kernel_rfl) rfl #[.agg #[.int .i64 a0_0,.int .i64 a0_1,.slice A0_2 l0_2.length c0_2],.agg #[.int .i64 a1_0,.int .i64 a1_1,.slice A1_2 l1_2.length c1_2]] rfl (by(try simp only [List.map_toArray,List.map_cons,List.map_nil]);first|done|rfl|(simp only [List.length_drop,List.length_take];rfl)) ?_;(with_reducible refine(spec_l14Two.calls k a0_0 a0_1 _ _ l0_2 a1_0 a1_1 _ _ l1_2 true _ ?side1 ?side2 ?side3 ?side4 A9.out).mono ?_);(case side1=>repeat(first|exact(Kd.C_below HR0_2.out HB.out)|(with_reducible refine Kd.C_alloc ?_ _)|(with_reducible refine Kd.C_drewN ?_ _)|(with_reducible refine Kd.C_drew ?_)));(case side2=>exact HC0_2.out);(case side3=>repeat(first|exact(Kd.C_below zy.out HB.out)|(with_reducible refine Kd.C_alloc ?_ _)|(with_reducible refine Kd.C_drewN ?_ _)|(with_reducible refine Kd.C_drew ?_)));(case side4=>exact zv.out);rintro e w15 ⟨rfl,hb⟩;refine⟨_,rfl,?_⟩;have qn:=Ja (Kd.R_below (by(with_reducible repeat(first|apply Jf|apply Jg|apply Jb));exact zj.out) hb);have qo:=Ja (Jo (g:=qk) (o:=.cells #[.int .i64 a0_0,.int .i64 a0_1,.slice A0_2 l0_2.length c0_2] 27 (0,0)) (by(with_reducible repeat(first|refine Ji ?_ _|refine Jc ?_|refine Jh ?_ _));exact qb.out) hb);have qp:=Ja (Jo (g:=qi) (o:=.cells #[.int .i64 a1_0,.int .i64 a1_1,.slice A1_2 l1_2.length c1_2] 27 (0,0)) (by(with_reducible repeat(first|refine Ji ?_ _|refine Jc ?_|refine Jh ?_ _));exact qa.out) hb);have qq:=Ja (below_step (by repeat(first|(with_reducible first|exact HB.out|apply Jk|apply Je|apply Jj|refine Jd ?_ qh.out|refine Jd ?_ qj.out)|exact HB.out)) hb);clear zj;clear qb;clear qa;clear HB;have zj:=qn;have qb:=qo;have qa:=qp;have HB:=qq;clear qn qo qp qq;(try clear hb);(try clear hb2);(try clear hk);(try clear hi))|(go_at_call 57;(with_reducible refine(spec_l1In.calls a2 1 64 zi _ A11.out).mono ?_);rintro e w' ⟨rfl,⟨nd,rfl⟩⟩))
   go_meet
   case rel=>exact⟨_,(!zi),(by first|rfl|(simp;done)|(simp [*];done)),H',⟨by first|omega|exact Nat.le_refl _⟩,⟨by(with_reducible repeat(first|apply Jf|apply Jg|apply Jb));exact zj.out⟩,⟨by(with_reducible repeat(first|refine Ji ?_ _|refine Jc ?_|refine Jh ?_ _));exact qb.out⟩,⟨by(with_reducible repeat(first|refine Ji ?_ _|refine Jc ?_|refine Jh ?_ _));exact qa.out⟩,⟨by repeat(first|(with_reducible first|exact HB.out|apply Jk|apply Je|apply Jj|refine Jd ?_ qh.out|refine Jd ?_ qj.out)|exact HB.out)⟩⟩
  ·replace c10:=Bool.eq_false_iff.mpr c10
   subst c10
   have H1:(spec_Encode.j0 k a2 qz true a0_0 a0_1 l0_2 a1_0 a1_1 l1_2)=some (r1,r2):=by rw [if_neg (show ¬ (false=true) by decide)] at H;exact H
   clear H
   have H:=H1
   clear H1
   have H':=Ja H
   clear H
   have hnb16:=yc.out
   have hnc16:=yd.out
   have yp:w7.cell? ⟨qk,0,none⟩=some (.int .i64 a0_0):=(Jn qb.out 0).trans rfl
   have yq:w7.cell? ⟨qk,1,none⟩=some (.int .i64 a0_1):=(Jn qb.out 1).trans rfl
   have yr:w7.cell? ⟨qk,2,none⟩=some (.slice A0_2 l0_2.length c0_2):=(Jn qb.out 2).trans rfl
   have zb:=Jl qb.out 0
   have zc:=Jl qb.out 1
   have zd:=Jl qb.out 2
   have ys:w7.cell? ⟨qi,0,none⟩=some (.int .i64 a1_0):=(Jn qa.out 0).trans rfl
   have yt:w7.cell? ⟨qi,1,none⟩=some (.int .i64 a1_1):=(Jn qa.out 1).trans rfl
   have yu:w7.cell? ⟨qi,2,none⟩=some (.slice A1_2 l1_2.length c1_2):=(Jn qa.out 2).trans rfl
   have ze:=Jl qa.out 0
   have zf:=Jl qa.out 1
   have zg:=Jl qa.out 2
   go_wp2_with (first|((with_reducible refine gate_callee (f:=66) rfl ?_);refine goesL_ (some 22) rfl rfl Try.func66 (by kernel_rfl) rfl #[.agg #[.int .i64 a0_0,.int .i64 a0_1,.slice A0_2 l0_2.length c0_2],.agg #[.int .i64 a1_0,.int .i64 a1_1,.slice A1_2 l1_2.length c1_2]] rfl (by(try simp only [List.map_toArray,List.map_cons,List.map_nil]);first|done|rfl|(simp only [List.length_drop,List.length_take];rfl)) ?_;(with_reducible refine(spec_l14Two.calls k a0_0 a0_1 _ _ l0_2 a1_0 a1_1 _ _ l1_2 false _ ?side1 ?side2 ?side3 ?side4 A9.out).mono ?_);(case side1=>repeat(first|exact(Kd.C_below HR0_2.out HB.out)|(with_reducible refine Kd.C_alloc ?_ _)|(with_reducible refine Kd.C_drewN ?_ _)|(with_reducible refine Kd.C_drew ?_)));(case side2=>exact HC0_2.out);(case side3=>repeat(first|exact(Kd.C_below zy.out HB.out)|(with_reducible refine Kd.C_alloc ?_ _)|(with_reducible refine Kd.C_drewN ?_ _)|(with_reducible refine Kd.C_drew ?_)));(case side4=>exact zv.out);rintro e w19 ⟨rfl,hb⟩;refine⟨_,rfl,?_⟩;have qn:=Ja (Kd.R_below (by(with_reducible repeat(first|apply Jf|apply Jg|apply Jb));exact zj.out) hb);have qo:=Ja (Jo (g:=qk) (o:=.cells #[.int .i64 a0_0,.int .i64 a0_1,.slice A0_2 l0_2.length c0_2] 27 (0,0)) (by(with_reducible repeat(first|refine Ji ?_ _|refine Jc ?_|refine Jh ?_ _));exact qb.out) hb);have qp:=Ja (Jo (g:=qi) (o:=.cells #[.int .i64 a1_0,.int .i64 a1_1,.slice A1_2 l1_2.length c1_2] 27 (0,0)) (by(with_reducible repeat(first|refine Ji ?_ _|refine Jc ?_|refine Jh ?_ _));exact qa.out) hb);have qq:=Ja (below_step (by repeat(first|(with_reducible first|exact HB.out|apply Jk|apply Je|apply Jj|refine Jd ?_ qh.out|refine Jd ?_ qj.out)|exact HB.out)) hb);clear zj;clear qb;clear qa;clear HB;have zj:=qn;have qb:=qo;have qa:=qp;have HB:=qq;clear qn qo qp qq;(try clear hb);(try clear hb2);(try clear hk);(try clear hi)))
   go_meet
   case rel=>exact⟨_,(true),(by first|rfl|(simp;done)|(simp [*];done)),H',⟨by first|omega|exact Nat.le_refl _⟩,⟨by(with_reducible repeat(first|apply Jf|apply Jg|apply Jb));exact zj.out⟩,⟨by(with_reducible repeat(first|refine Ji ?_ _|refine Jc ?_|refine Jh ?_ _));exact qb.out⟩,⟨by(with_reducible repeat(first|refine Ji ?_ _|refine Jc ?_|refine Jh ?_ _));exact qa.out⟩,⟨by repeat(first|(with_reducible first|exact HB.out|apply Jk|apply Je|apply Jj|refine Jd ?_ qh.out|refine Jd ?_ qj.out)|exact HB.out)⟩⟩
 case rest=>
  clear HC4
  try clear c1
  try clear p2
  try clear c4
  try clear c6
  try clear c10
  try clear c12
  try clear c16
  try clear yj
  try clear yk
  try clear yl
  try clear ym
  try clear yn
  try clear yo
  try clear yp
  try clear yq
  try clear yr
  try clear ys
  try clear yt
  try clear yu
  try clear yv
  try clear yw
  try clear yx
  try clear yy
  try clear yz
  try clear za
  try clear zb
  try clear zc
  try clear zd
  try clear ze
  try clear zf
  try clear zg
  obtain⟨kq,x28_3,rfl,HA,HJ3,qg,qb,qa,HB⟩:=hcut
  cases kq with
  | zero => exact absurd HA.out (by simp [spec_Encode.j0])
  | succ kj3 =>
   have H:=HA.out
   clear HA
   simp only [spec_Encode.j0] at H
   by_cases c20:x28_3=true
   ·subst c20
    have H1:(some (qz,false))=some (r1,r2):=by rw [if_pos rfl] at H;exact H
    clear H
    have H:=H1
    clear H1
    simp only [Option.some.injEq,Prod.mk.injEq] at H
    obtain⟨rfl,rfl⟩:=H
    go_wp2
    go_ret2
    exact⟨_,by first|rfl|(simp [errW_none,errW_some] <;> rfl)|(simp [*,errW_none,errW_some] <;> rfl),by(with_reducible repeat(first|apply Jf|apply Jg|apply Jb));exact qg.out,by repeat(first|(with_reducible first|exact HB.out|apply Jk|apply Je|apply Jj|refine Jd ?_ qh.out|refine Jd ?_ qj.out)|exact HB.out)⟩
   ·replace c20:=Bool.eq_false_iff.mpr c20
    subst c20
    have H1:(spec_Encode.l0 kj3 a2 qz 0 a0_0 a0_1 l0_2 a1_0 a1_1 l1_2)=some (r1,r2):=by rw [if_neg (show ¬ (false=true) by decide)] at H;exact H
    clear H
    have H:=H1
    clear H1
    have H':=Ja H
    clear H
    go_wp2
    go_loopg [8,9] kj3 (fun kq v8 v9 w'=>∃ (zr:List Int) (qm:Int),v9=.int .i64 qm∧Aside0 (spec_Encode.l0 kq a2 zr qm a0_0 a0_1 l0_2 a1_0 a1_1 l1_2=some (r1,r2))∧Aside0 (kq≤kj3)∧Aside0 (Kd.R (Kd.int .u8) 5 w' w.heap.size (fun _=>True) v8 zr)∧Aside0 (w'.heap[qk]? = some (.cells #[.int .i64 a0_0,.int .i64 a0_1,(.slice A0_2 l0_2.length c0_2)] 27 (0,0)))∧Aside0 (w'.heap[qi]? = some (.cells #[.int .i64 a1_0,.int .i64 a1_1,(.slice A1_2 l1_2.length c1_2)] 27 (0,0)))∧Aside0 (Below w.heap.size w w'))
    case atStart=>exact⟨(qz),(0),(by first|rfl|(simp;done)|(simp [*];done)),H',⟨Nat.le_refl _⟩,⟨by(with_reducible repeat(first|apply Jf|apply Jg|apply Jb));exact qg.out⟩,⟨by(with_reducible repeat(first|refine Ji ?_ _|refine Jc ?_|refine Jh ?_ _));exact qb.out⟩,⟨by(with_reducible repeat(first|refine Ji ?_ _|refine Jc ?_|refine Jh ?_ _));exact qa.out⟩,⟨by repeat(first|(with_reducible first|exact HB.out|apply Jk|apply Je|apply Jj|refine Jd ?_ qh.out|refine Jd ?_ qj.out)|exact HB.out)⟩⟩
    case round=>
     clear H'
     try clear c1
     try clear c2
     try clear p2
     try clear c4
     try clear c6
     try clear c10
     try clear c12
     try clear c16
     try clear c20
     try clear yj
     try clear yk
     try clear yl
     try clear ym
     try clear yn
     try clear yo
     try clear yp
     try clear yq
     try clear yr
     try clear ys
     try clear yt
     try clear yu
     try clear yv
     try clear yw
     try clear yx
     try clear yy
     try clear yz
     try clear za
     try clear zb
     try clear zc
     try clear zd
     try clear ze
     try clear zf
     try clear zg
     try clear p2
     obtain⟨zr,qm,rfl,HA,HK2,qg,qb,qa,HB⟩:=hrel
     cases gk with
     | zero => exact absurd HA.out (by simp [spec_Encode.l0])
     | succ k2 =>
      have H:=HA.out
      clear HA
      simp only [spec_Encode.l0] at H
      replace H:=Option.bind_eq_some_iff.mp H
      obtain⟨t227,A210,H⟩:=H
      replace H:(if qm < t227 then ((spec_l14Motion.f k2 a0_0 a0_1 l0_2 a1_0 a1_1 l1_2 qm).bind fun bt228=>(if zr.length < 140737488355328 then ((spec_l14Block.f k2 a1_0 a1_1 l1_2 qm 0 0).bind fun zk=>((spec_l14Block.f k2 a0_0 a0_1 l0_2 qm bt228.1 bt228.2).bind fun qt=>(spec_Encode.l1 k2 a2 (zr ++ [(wrap64 ((wrap64 ((wrap64 (8*(wrap64 (bt228.2+2))))+bt228.1))+2)) % 256]) qm zk qt 0 a0_0 a0_1 l0_2 a1_0 a1_1 l1_2))) else (none))) else (some (zr,true)))=some (r1,r2):=H
      have A21:=Ja A210
      clear A210
      by_cases c22:qm < t227
      ·rw [if_pos c22] at H
       have c22b0:decide (qm < t227)=true:=decide_eq_true c22
       clear c22
       replace H:=Option.bind_eq_some_iff.mp H
       obtain⟨⟨zs,zt⟩,A230,H⟩:=H
       replace H:(if zr.length < 140737488355328 then ((spec_l14Block.f k2 a1_0 a1_1 l1_2 qm 0 0).bind fun zk=>((spec_l14Block.f k2 a0_0 a0_1 l0_2 qm zs zt).bind fun qt=>(spec_Encode.l1 k2 a2 (zr ++ [(wrap64 ((wrap64 ((wrap64 (8*(wrap64 (zt+2))))+zs))+2)) % 256]) qm zk qt 0 a0_0 a0_1 l0_2 a1_0 a1_1 l1_2))) else (none))=some (r1,r2):=H
       have A23:=Ja A230
       clear A230
       by_cases c24:zr.length < 140737488355328
       ·rw [if_pos c24] at H
        have LMc24:=Ja c24
        clear c24
        obtain⟨ya,hy230⟩:∃ y_:List Int,y_=(zr ++ [(wrap64 ((wrap64 ((wrap64 (8*(wrap64 (zt+2))))+zs))+2)) % 256]):=⟨_,rfl⟩
        replace H:((spec_l14Block.f k2 a1_0 a1_1 l1_2 qm 0 0).bind fun zk=>((spec_l14Block.f k2 a0_0 a0_1 l0_2 qm zs zt).bind fun qt=>(spec_Encode.l1 k2 a2 ya qm zk qt 0 a0_0 a0_1 l0_2 a1_0 a1_1 l1_2)))=some (r1,r2):=by first|(rw [hy230];with_reducible exact H)|(have qx:=(Option.bind_some _ _).symm.trans H;rw [hy230];with_reducible exact qx)|(have qx:=(Option.bind_some _ _).symm.trans H;with_reducible exact qx)|with_reducible exact H|(rw [hy230];exact H)|exact H
        have Ny230:=Ja hy230
        clear hy230
        replace H:=Option.bind_eq_some_iff.mp H
        obtain⟨zk,A250,H⟩:=H
        replace H:((spec_l14Block.f k2 a0_0 a0_1 l0_2 qm zs zt).bind fun qt=>(spec_Encode.l1 k2 a2 ya qm zk qt 0 a0_0 a0_1 l0_2 a1_0 a1_1 l1_2))=some (r1,r2):=H
        have A25:=Ja A250
        clear A250
        replace H:=Option.bind_eq_some_iff.mp H
        obtain⟨qt,A260,H⟩:=H
        replace H:(spec_Encode.l1 k2 a2 ya qm zk qt 0 a0_0 a0_1 l0_2 a1_0 a1_1 l1_2)=some (r1,r2):=H
        have A26:=Ja A260
        clear A260
        have H':=Ja H
        clear H
        have hnb27:=yd.out
        have hnc27:=yc.out
        have hcz28_0:wr.cell? ⟨qi,0,none⟩=some (.int .i64 a1_0):=(Jn qa.out 0).trans rfl
        have hcz28_1:wr.cell? ⟨qi,1,none⟩=some (.int .i64 a1_1):=(Jn qa.out 1).trans rfl
        have hcz28_2:wr.cell? ⟨qi,2,none⟩=some (.slice A1_2 l1_2.length c1_2):=(Jn qa.out 2).trans rfl
        have hfz28_0:=Jl qa.out 0
        have hfz28_1:=Jl qa.out 1
        have hfz28_2:=Jl qa.out 2
        go_wp2_with (first|((with_reducible refine gate_callee (f:=67) rfl ?_);refine goesL_ (some 32) rfl rfl Try.func67 (by kernel_rfl) rfl #[.agg #[.int .i64 a1_0,.int .i64 a1_1,.slice A1_2 l1_2.length c1_2]] rfl (by(try simp only [List.map_toArray,List.map_cons,List.map_nil]);first|done|rfl|(simp only [List.length_drop,List.length_take];rfl)) ?_;(with_reducible refine(spec_l14Blocks.calls a1_0 a1_1 _ _ l1_2 t227 _ ?side1 ?side2 A21.out).mono ?_);(case side1=>repeat(first|exact(Kd.C_below zy.out HB.out)|(with_reducible refine Kd.C_alloc ?_ _)|(with_reducible refine Kd.C_drewN ?_ _)|(with_reducible refine Kd.C_drew ?_)));(case side2=>exact zv.out);rintro e w29 ⟨rfl,hb⟩;refine⟨_,rfl,?_⟩;have qn:=Ja (Kd.R_below (by(with_reducible repeat(first|apply Jf|apply Jg|apply Jb));exact qg.out) hb);have qo:=Ja (Jo (g:=qk) (o:=.cells #[.int .i64 a0_0,.int .i64 a0_1,.slice A0_2 l0_2.length c0_2] 27 (0,0)) (by(with_reducible repeat(first|refine Ji ?_ _|refine Jc ?_|refine Jh ?_ _));exact qb.out) hb);have qp:=Ja (Jo (g:=qi) (o:=.cells #[.int .i64 a1_0,.int .i64 a1_1,.slice A1_2 l1_2.length c1_2] 27 (0,0)) (by(with_reducible repeat(first|refine Ji ?_ _|refine Jc ?_|refine Jh ?_ _));exact qa.out) hb);have qq:=Ja (below_step (by repeat(first|(with_reducible first|exact HB.out|apply Jk|apply Je|apply Jj|refine Jd ?_ qh.out|refine Jd ?_ qj.out)|exact HB.out)) hb);clear qg;clear qb;clear qa;clear HB;have qg:=qn;have qb:=qo;have qa:=qp;have HB:=qq;clear qn qo qp qq;(try clear hb);(try clear hb2);(try clear hk);(try clear hi);have hcz30_0:w29.cell? ⟨qk,0,none⟩=some (.int .i64 a0_0):=(Jn qb.out 0).trans rfl;have hcz30_1:w29.cell? ⟨qk,1,none⟩=some (.int .i64 a0_1):=(Jn qb.out 1).trans rfl;have hcz30_2:w29.cell? ⟨qk,2,none⟩=some (.slice A0_2 l0_2.length c0_2):=(Jn qb.out 2).trans rfl;have hfz30_0:=Jl qb.out 0;have hfz30_1:=Jl qb.out 1;have hfz30_2:=Jl qb.out 2;have hcz31_0:w29.cell? ⟨qi,0,none⟩=some (.int .i64 a1_0):=(Jn qa.out 0).trans rfl;have hcz31_1:w29.cell? ⟨qi,1,none⟩=some (.int .i64 a1_1):=(Jn qa.out 1).trans rfl;have hcz31_2:w29.cell? ⟨qi,2,none⟩=some (.slice A1_2 l1_2.length c1_2):=(Jn qa.out 2).trans rfl;have hfz31_0:=Jl qa.out 0;have hfz31_1:=Jl qa.out 1;have hfz31_2:=Jl qa.out 2)|((with_reducible refine gate_callee (f:=68) rfl ?_);refine goesL_ (some 40) rfl rfl Try.func68 (by kernel_rfl) rfl #[.agg #[.int .i64 a0_0,.int .i64 a0_1,.slice A0_2 l0_2.length c0_2],.agg #[.int .i64 a1_0,.int .i64 a1_1,.slice A1_2 l1_2.length c1_2],.int .i64 qm] rfl (by(try simp only [List.map_toArray,List.map_cons,List.map_nil]);first|done|rfl|(simp only [List.length_drop,List.length_take];rfl)) ?_;(with_reducible refine(spec_l14Motion.calls k2 a0_0 a0_1 _ _ l0_2 a1_0 a1_1 _ _ l1_2 qm zs zt _ ?side1 ?side2 ?side3 ?side4 A23.out).mono ?_);(case side1=>repeat(first|exact(Kd.C_below HR0_2.out HB.out)|(with_reducible refine Kd.C_alloc ?_ _)|(with_reducible refine Kd.C_drewN ?_ _)|(with_reducible refine Kd.C_drew ?_)));(case side2=>exact HC0_2.out);(case side3=>repeat(first|exact(Kd.C_below zy.out HB.out)|(with_reducible refine Kd.C_alloc ?_ _)|(with_reducible refine Kd.C_drewN ?_ _)|(with_reducible refine Kd.C_drew ?_)));(case side4=>exact zv.out);rintro e w32 ⟨rfl,hb⟩;refine⟨_,rfl,?_⟩;have qn:=Ja (Kd.R_below (by(with_reducible repeat(first|apply Jf|apply Jg|apply Jb));exact qg.out) hb);have qo:=Ja (Jo (g:=qk) (o:=.cells #[.int .i64 a0_0,.int .i64 a0_1,.slice A0_2 l0_2.length c0_2] 27 (0,0)) (by(with_reducible repeat(first|refine Ji ?_ _|refine Jc ?_|refine Jh ?_ _));exact qb.out) hb);have qp:=Ja (Jo (g:=qi) (o:=.cells #[.int .i64 a1_0,.int .i64 a1_1,.slice A1_2 l1_2.length c1_2] 27 (0,0)) (by(with_reducible repeat(first|refine Ji ?_ _|refine Jc ?_|refine Jh ?_ _));exact qa.out) hb);have qq:=Ja (below_step (by repeat(first|(with_reducible first|exact HB.out|apply Jk|apply Je|apply Jj|refine Jd ?_ qh.out|refine Jd ?_ qj.out)|exact HB.out)) hb);clear qg;clear qb;clear qa;clear HB;have qg:=qn;have qb:=qo;have qa:=qp;have HB:=qq;clear qn qo qp qq;(try clear hb);(try clear hb2);(try clear hk);(try clear hi))|((with_reducible refine gate_builtin (b:=.append) (xs:=#[.tmp 43,.tmp 51]) rfl ?_);at_builtin;refine Kd.R_append (Kd.int .u8) (w0:=w) w.heap.size rfl (.tmp 43) (.tmp 51) 37 5 (.int .u8 0) 1 rfl Try.underlying37 info5 rfl (by decide) (by omega) u8 zr ((wrap64 ((wrap64 ((wrap64 (8*(wrap64 (zt+2))))+zs))+2)) % 256) [.int .u8 ((wrap64 ((wrap64 ((wrap64 (8*(wrap64 (zt+2))))+zs))+2)) % 256)] (fun _=>True) (fun _=>False) rfl rfl ?aP (fun _ hk=>hk.elim) ?aF ?aO ?aB ?aS ?aL ?_;(case aP=>exact rfl);(case aB=>exact(by repeat(first|(with_reducible first|exact HB.out|apply Jk|apply Je|apply Jj|refine Jd ?_ qh.out|refine Jd ?_ qj.out)|exact HB.out)));(case aF=>exact(fun _ _=>trivial));(case aO=>exact(by(with_reducible repeat(first|apply Jf|apply Jg|apply Jb));exact qg.out));(case aS=>exact(below_size (by repeat(first|(with_reducible first|exact HB.out|apply Jk|apply Je|apply Jj|refine Jd ?_ qh.out|refine Jd ?_ qj.out)|exact HB.out))));(case aL=>have:=LMc24.out;omega);intro v231 w33 ho hb hg hat;rw [← Ny230.out] at ho;have qn:=Ja (blk_grown (g:=qk) (o:=.cells #[.int .i64 a0_0,.int .i64 a0_1,.slice A0_2 l0_2.length c0_2] 27 (0,0)) (by(with_reducible repeat(first|refine Ji ?_ _|refine Jc ?_|refine Jh ?_ _));exact qb.out) hg (Kd.R_ne qg.out qb.out (by decide)));have qo:=Ja (blk_grown (g:=qi) (o:=.cells #[.int .i64 a1_0,.int .i64 a1_1,.slice A1_2 l1_2.length c1_2] 27 (0,0)) (by(with_reducible repeat(first|refine Ji ?_ _|refine Jc ?_|refine Jh ?_ _));exact qa.out) hg (Kd.R_ne qg.out qa.out (by decide)));have qp:=Ja (hb);have qq:=Ja (ho);clear qb;clear qa;clear HB;clear qg;have qb:=qn;have qa:=qo;have HB:=qp;have zn:=qq;clear qn qo qp qq;clear ho hb hg hat;have hcz34_0:w33.cell? ⟨qi,0,none⟩=some (.int .i64 a1_0):=(Jn qa.out 0).trans rfl;have hcz34_1:w33.cell? ⟨qi,1,none⟩=some (.int .i64 a1_1):=(Jn qa.out 1).trans rfl;have hcz34_2:w33.cell? ⟨qi,2,none⟩=some (.slice A1_2 l1_2.length c1_2):=(Jn qa.out 2).trans rfl;have hfz34_0:=Jl qa.out 0;have hfz34_1:=Jl qa.out 1;have hfz34_2:=Jl qa.out 2)|((with_reducible refine gate_callee (f:=73) rfl ?_);refine goesL_ (some 55) rfl rfl Try.func73 (by kernel_rfl) rfl #[.agg #[.int .i64 a1_0,.int .i64 a1_1,.slice A1_2 l1_2.length c1_2],.int .i64 qm,.int .i64 0,.int .i64 0] rfl (by(try simp only [List.map_toArray,List.map_cons,List.map_nil]);first|done|rfl|(simp only [List.length_drop,List.length_take];rfl)) ?_;(with_reducible refine(spec_l14Block.calls k2 a1_0 a1_1 _ _ l1_2 qm 0 0 zk _ ?side1 ?side2 A25.out).mono ?_);(case side1=>repeat(first|exact(Kd.C_below zy.out HB.out)|(with_reducible refine Kd.C_alloc ?_ _)|(with_reducible refine Kd.C_drewN ?_ _)|(with_reducible refine Kd.C_drew ?_)));(case side2=>exact zv.out);rintro e w35 ⟨v234,rfl,ho0,hb⟩;refine⟨_,rfl,?_⟩;have qn:=Ja (Kd.R_below (by(with_reducible repeat(first|apply Jf|apply Jg|apply Jb));exact zn.out) hb);have qo:=Ja (Kd.R_lower ho0 (below_size (by repeat(first|(with_reducible first|exact HB.out|apply Jk|apply Je|apply Jj|refine Jd ?_ qh.out|refine Jd ?_ qj.out)|exact HB.out))));have qp:=Ja (Jo (g:=qk) (o:=.cells #[.int .i64 a0_0,.int .i64 a0_1,.slice A0_2 l0_2.length c0_2] 27 (0,0)) (by(with_reducible repeat(first|refine Ji ?_ _|refine Jc ?_|refine Jh ?_ _));exact qb.out) hb);have qq:=Ja (Jo (g:=qi) (o:=.cells #[.int .i64 a1_0,.int .i64 a1_1,.slice A1_2 l1_2.length c1_2] 27 (0,0)) (by(with_reducible repeat(first|refine Ji ?_ _|refine Jc ?_|refine Jh ?_ _));exact qa.out) hb);have qs:=Ja (below_step (by repeat(first|(with_reducible first|exact HB.out|apply Jk|apply Je|apply Jj|refine Jd ?_ qh.out|refine Jd ?_ qj.out)|exact HB.out)) hb);clear zn;clear qb;clear qa;clear HB;have zn:=qn;have HO235:=qo;have qb:=qp;have qa:=qq;have HB:=qs;clear qn qo qp qq qs;(try clear hb);(try clear hb2);(try clear hk);(try clear hi);(try clear ho0);have hcz36_0:w35.cell? ⟨qk,0,none⟩=some (.int .i64 a0_0):=(Jn qb.out 0).trans rfl;have hcz36_1:w35.cell? ⟨qk,1,none⟩=some (.int .i64 a0_1):=(Jn qb.out 1).trans rfl;have hcz36_2:w35.cell? ⟨qk,2,none⟩=some (.slice A0_2 l0_2.length c0_2):=(Jn qb.out 2).trans rfl;have hfz36_0:=Jl qb.out 0;have hfz36_1:=Jl qb.out 1;have hfz36_2:=Jl qb.out 2)|((with_reducible refine gate_callee (f:=73) rfl ?_);refine goesL_ (some 60) rfl rfl Try.func73 (by kernel_rfl) rfl #[.agg #[.int .i64 a0_0,.int .i64 a0_1,.slice A0_2 l0_2.length c0_2],.int .i64 qm,.int .i64 zs,.int .i64 zt] rfl (by(try simp only [List.map_toArray,List.map_cons,List.map_nil]);first|done|rfl|(simp only [List.length_drop,List.length_take];rfl)) ?_;(with_reducible refine(spec_l14Block.calls k2 a0_0 a0_1 _ _ l0_2 qm zs zt qt _ ?side1 ?side2 A26.out).mono ?_);(case side1=>repeat(first|exact(Kd.C_below HR0_2.out HB.out)|(with_reducible refine Kd.C_alloc ?_ _)|(with_reducible refine Kd.C_drewN ?_ _)|(with_reducible refine Kd.C_drew ?_)));(case side2=>exact HC0_2.out);rintro e w37 ⟨v237,rfl,ho0,hb⟩;refine⟨_,rfl,?_⟩;have qn:=Ja (Kd.R_below (by(with_reducible repeat(first|apply Jf|apply Jg|apply Jb));exact zn.out) hb);have qo:=Ja (Kd.R_elder' (by(with_reducible repeat(first|apply Jf|apply Jg|apply Jb));exact HO235.out) (Kd.R_base ho0) hb);have qp:=Ja (Kd.R_lower (Kd.R_new' ho0 (Kd.R_lt (by(with_reducible repeat(first|apply Jf|apply Jg|apply Jb));exact HO235.out))) (below_size (by repeat(first|(with_reducible first|exact HB.out|apply Jk|apply Je|apply Jj|refine Jd ?_ qh.out|refine Jd ?_ qj.out)|exact HB.out))));have qq:=Ja (Jo (g:=qk) (o:=.cells #[.int .i64 a0_0,.int .i64 a0_1,.slice A0_2 l0_2.length c0_2] 27 (0,0)) (by(with_reducible repeat(first|refine Ji ?_ _|refine Jc ?_|refine Jh ?_ _));exact qb.out) hb);have qs:=Ja (Jo (g:=qi) (o:=.cells #[.int .i64 a1_0,.int .i64 a1_1,.slice A1_2 l1_2.length c1_2] 27 (0,0)) (by(with_reducible repeat(first|refine Ji ?_ _|refine Jc ?_|refine Jh ?_ _));exact qa.out) hb);have zq:=Ja (below_step (by repeat(first|(with_reducible first|exact HB.out|apply Jk|apply Je|apply Jj|refine Jd ?_ qh.out|refine Jd ?_ qj.out)|exact HB.out)) hb);clear zn;clear HO235;clear qb;clear qa;clear HB;have zn:=qn;have HO235:=qo;have HO238:=qp;have qb:=qq;have qa:=qs;have HB:=zq;clear qn qo qp qq qs zq;(try clear hb);(try clear hb2);(try clear hk);(try clear hi);(try clear ho0)))
        go_loopg [14] k2 (fun kq v14 w'=>∃ (qu:List Int) (ql:Int),v14=.int .i64 ql∧Aside0 (spec_Encode.l1 kq a2 ya qm qu qt ql a0_0 a0_1 l0_2 a1_0 a1_1 l1_2=some (r1,r2))∧Aside0 (kq≤k2)∧Aside0 (Kd.R (Kd.int .u8) 5 w' w.heap.size (fun _=>True) v231 ya)∧Aside0 (Kd.R (Kd.int .i64) 2 w' w.heap.size (fun k_=>some k_≠(v237:Value).ownBlock) v234 qu)∧Aside0 (Kd.R (Kd.int .i64) 2 w' w.heap.size (fun k_=>some k_≠(v234:Value).ownBlock) v237 qt)∧Aside0 (w'.heap[qk]? = some (.cells #[.int .i64 a0_0,.int .i64 a0_1,(.slice A0_2 l0_2.length c0_2)] 27 (0,0)))∧Aside0 (w'.heap[qi]? = some (.cells #[.int .i64 a1_0,.int .i64 a1_1,(.slice A1_2 l1_2.length c1_2)] 27 (0,0)))∧Aside0 (Below w.heap.size w w'))
        case atStart=>exact⟨(zk),(0),(by first|rfl|(simp;done)|(simp [*];done)),H',⟨Nat.le_refl _⟩,⟨by(with_reducible repeat(first|apply Jf|apply Jg|apply Jb));exact zn.out⟩,⟨by(with_reducible repeat(first|apply Jf|apply Jg|apply Jb));exact Kd.R_mono HO235.out (fun _ hk=>hk.2)⟩,⟨by(with_reducible repeat(first|apply Jf|apply Jg|apply Jb));exact Kd.R_mono HO238.out (fun _ hk=>hk.2)⟩,⟨by(with_reducible repeat(first|refine Ji ?_ _|refine Jc ?_|refine Jh ?_ _));exact qb.out⟩,⟨by(with_reducible repeat(first|refine Ji ?_ _|refine Jc ?_|refine Jh ?_ _));exact qa.out⟩,⟨by repeat(first|(with_reducible first|exact HB.out|apply Jk|apply Je|apply Jj|refine Jd ?_ qh.out|refine Jd ?_ qj.out)|exact HB.out)⟩⟩
        case round=>
         clear H'
         try clear c1
         try clear c2
         try clear p2
         try clear c4
         try clear c6
         try clear p6
         try clear c7
         try clear c10
         try clear c12
         try clear c16
         try clear c20
         try clear c22
         try clear c22b0
         try clear c24
         try clear c27
         try clear yj
         try clear yk
         try clear yl
         try clear ym
         try clear yn
         try clear yo
         try clear yp
         try clear yq
         try clear yr
         try clear ys
         try clear yt
         try clear yu
         try clear hcz28_0
         try clear hcz28_1
         try clear hcz28_2
         try clear hcz30_0
         try clear hcz30_1
         try clear hcz30_2
         try clear hcz31_0
         try clear hcz31_1
         try clear hcz31_2
         try clear hcz34_0
         try clear hcz34_1
         try clear hcz34_2
         try clear hcz36_0
         try clear hcz36_1
         try clear hcz36_2
         try clear yv
         try clear yw
         try clear yx
         try clear yy
         try clear yz
         try clear za
         try clear zb
         try clear zc
         try clear zd
         try clear ze
         try clear zf
         try clear zg
         try clear hfz28_0
         try clear hfz28_1
         try clear hfz28_2
         try clear hfz30_0
         try clear hfz30_1
         try clear hfz30_2
         try clear hfz31_0
         try clear hfz31_1
         try clear hfz31_2
         try clear hfz34_0
         try clear hfz34_1
         try clear hfz34_2
         try clear hfz36_0
         try clear hfz36_1
         try clear hfz36_2
         try clear p2
         obtain⟨qu,ql,rfl,HA,HK3,qg,qc,yb,qb,qa,HB⟩:=hrel
         cases gk with
         | zero => exact absurd HA.out (by simp [spec_Encode.l1])
         | succ k3 =>
          have H:=HA.out
          clear HA
          simp only [spec_Encode.l1] at H
          by_cases c38:ql < 16
          ·rw [if_pos c38] at H
           have c38b0:decide (ql < 16)=true:=decide_eq_true c38
           clear c38
           by_cases c39:0≤ql
           ·rw [if_pos c39] at H
            have c39b0:decide (0≤ql)=true:=decide_eq_true c39
            clear c39
            by_cases c40:ql < (qu.length:Int)
            ·rw [if_pos c40] at H
             have c40b0:decide (ql < (qu.length:Int))=true:=decide_eq_true c40
             clear c40
             by_cases c41:ql < (qt.length:Int)
             ·rw [if_pos c41] at H
              have c41b0:decide (ql < (qt.length:Int))=true:=decide_eq_true c41
              clear c41
              obtain⟨y241,hy241⟩:∃ y_:List Int,y_=(qu.set (ql:Int).toNat (wrap64 ((rd qu ql) - (rd qt ql)))):=⟨_,rfl⟩
              replace H:(spec_Encode.l1 k3 a2 ya qm y241 qt (wrap64 (ql+1)) a0_0 a0_1 l0_2 a1_0 a1_1 l1_2)=some (r1,r2):=by first|(rw [hy241];with_reducible exact H)|(have qx:=(Option.bind_some _ _).symm.trans H;rw [hy241];with_reducible exact qx)|(have qx:=(Option.bind_some _ _).symm.trans H;with_reducible exact qx)|with_reducible exact H|(rw [hy241];exact H)|exact H
              have Ny241:=Ja hy241
              clear hy241
              have H':=Ja H
              clear H
              try go_wp2
              have qn:=Ja (Jb qg.out)
              have qo:=Ja (Jb qc.out)
              have qp:=Ja (Jb yb.out)
              have qq:=Ja (Jc qb.out)
              have qs:=Ja (Jc qa.out)
              have zq:=Ja (Jj HB.out)
              clear qg
              clear qc
              clear yb
              clear qb
              clear qa
              clear HB
              have qg:=qn
              have qc:=qo
              have yb:=qp
              have qb:=qq
              have qa:=qs
              have HB:=zq
              clear qn qo qp qq qs zq
              obtain⟨Ao44,co44,eo44⟩:=Kd.R_slice qc.out
              (first|subst eo44|(injection eo44 with f1_ f2_ f3_;have f4_:=f1_.symm;have f5_:=f3_.symm;clear f1_ f2_ f3_;subst f4_;subst f5_))
              have p239:0≤(ql:Int):=of_decide_eq_true (by first|(with_reducible assumption)|assumption)
              have q239:ql < (qu.length:Int):=of_decide_eq_true (by first|(with_reducible assumption)|assumption)
              obtain⟨ad239,e239,zh⟩:=Kd.at_int (Jm qc.out).2.2 ql p239 q239
              cases e239
              replace p239:=eq_true p239
              replace q239:=eq_true q239
              obtain⟨Ao45,co45,eo45⟩:=Kd.R_slice yb.out
              (first|subst eo45|(injection eo45 with f1_ f2_ f3_;have f4_:=f1_.symm;have f5_:=f3_.symm;clear f1_ f2_ f3_;subst f4_;subst f5_))
              have p240:0≤(ql:Int):=of_decide_eq_true (by first|(with_reducible assumption)|assumption)
              have q240:ql < (qt.length:Int):=of_decide_eq_true (by first|(with_reducible assumption)|assumption)
              obtain⟨ad240,e240,zl⟩:=Kd.at_int (Jm yb.out).2.2 ql p240 q240
              cases e240
              replace p240:=eq_true p240
              replace q240:=eq_true q240
              have p42:0≤(ql:Int):=of_decide_eq_true (by first|(with_reducible assumption)|assumption)
              have q42:(ql:Int) < ((qu.length:Int):Int):=of_decide_eq_true (by first|(with_reducible assumption)|assumption)
              obtain⟨go42,co42,eo42,gb42,gl42,cl42,HG42⟩:=Kd.R_form qc.out (by omega)
              (first|cases eo42|(injection eo42 with ea_ en_ ec_;(first|subst ea_|(injection ea_ with ea_;subst ea_));subst ec_;clear en_))
              have GB42:=Ja gb42
              have GG42:=Ja HG42
              clear gb42 gl42 HG42
              (first|simp only [add_plain] at zh|skip)
              obtain⟨hx42_0,hf42_0⟩:=Kd.R_celln 0 qc.out (ql:Int) p42 q42
              replace p42:=eq_true p42
              replace q42:=eq_true q42
              have HP46:=Kd.R_putn qc.out (ql:Int) (wrap64 ((rd qu ql) - (rd qt ql)))
              rw [← Ny241.out] at HP46
              have HQ46:=Ja HP46
              clear HP46
              refine start_ (n:=13) (S:=fun w'=>w'.cell? ⟨go42,(ql).toNat,none⟩=some (.int .i64 (rd qu ql))∧w'.cell? (ad240.add (ql).toNat)=some (.int .i64 (rd qt ql))) (ds:=[12]) #[false,false,false,false,false,false,false,false,false,false,false,false,false] (by kernel_rfl) rfl rfl ⟨zh,zl⟩ (fun hHeld=>?_);refine with_tabW spec_Encode.tab14 spec_Encode.bits14 (fun HT_ HW_=>?_)
              generalize wr.drew=w43 at qg qc yb qb qa HB GG42 HQ46 hf42_0 zh zl hx42_0 hHeld ⊢
              refine pure_ (i:=0) (N:=some 65) (v:=?_) (a':=?_) #[true,false,false,false,false,false,false,false,false,false,false,false,false] rfl rfl (any_of HT_.out (by kernel_rfl)) (fun _ _ _ h=>h) (Or.inl ⟨by rfl,?_⟩) ?_ ?_
              rotate_left
              ·intro w'
               go_simp
               with_reducible rfl
              rotate_left
              ·simp only [Act.put,List.setIfInBounds_toArray,List.set_cons_zero,List.set_cons_succ,i64_w,i32_w]
               rfl
              refine pure_ (i:=1) (N:=some 66) (v:=?_) (a':=?_) #[true,true,false,false,false,false,false,false,false,false,false,false,false] rfl rfl (any_of HT_.out (by kernel_rfl)) (fun _ _ _ h=>h) (Or.inl ⟨by rfl,?_⟩) ?_ ?_
              rotate_left
              ·intro w'
               go_simp
               with_reducible rfl
              rotate_left
              ·simp only [Act.put,List.setIfInBounds_toArray,List.set_cons_zero,List.set_cons_succ,i64_w,i32_w]
               rfl
              refine pure_ (i:=2) (N:=some 67) (v:=?_) (a':=?_) #[true,true,true,false,false,false,false,false,false,false,false,false,false] rfl rfl (any_of HT_.out (by kernel_rfl)) (fun _ _ _ h=>h) (Or.inl ⟨by rfl,?_⟩) ?_ ?_
              rotate_left
              ·intro w'
               go_simp
               with_reducible rfl
              rotate_left
              ·simp only [Act.put,List.setIfInBounds_toArray,List.set_cons_zero,List.set_cons_succ,i64_w,i32_w]
               rfl
              refine pure_ (i:=3) (N:=some 68) (v:=?_) (a':=?_) #[true,true,true,true,false,false,false,false,false,false,false,false,false] rfl rfl (any_of HT_.out (by kernel_rfl)) (fun _ _ _ h=>h) (Or.inl ⟨by rfl,?_⟩) ?_ ?_
              rotate_left
              ·intro w'
               go_simp
               with_reducible rfl
              rotate_left
              ·simp only [Act.put,List.setIfInBounds_toArray,List.set_cons_zero,List.set_cons_succ,i64_w,i32_w]
               rfl
              refine pure_ (i:=4) (N:=some 69) (v:=?_) (a':=?_) #[true,true,true,true,true,false,false,false,false,false,false,false,false] rfl rfl (any_of HT_.out (by kernel_rfl)) (fun _ _ _ h=>h) (Or.inl ⟨by rfl,?_⟩) ?_ ?_
              rotate_left
              ·intro w'
               go_simp
               with_reducible rfl
              rotate_left
              ·simp only [Act.put,List.setIfInBounds_toArray,List.set_cons_zero,List.set_cons_succ,i64_w,i32_w]
               rfl
              refine pure_ (i:=6) (N:=some 71) (v:=?_) (a':=?_) #[true,true,true,true,true,false,true,false,false,false,false,false,false] rfl rfl (any_of HT_.out (by kernel_rfl)) (fun _ _ _ h=>h) (Or.inl ⟨by rfl,?_⟩) ?_ ?_
              rotate_left
              ·intro w'
               go_simp
               with_reducible rfl
              rotate_left
              ·simp only [Act.put,List.setIfInBounds_toArray,List.set_cons_zero,List.set_cons_succ,i64_w,i32_w]
               rfl
              refine pure_ (i:=7) (N:=some 72) (v:=?_) (a':=?_) #[true,true,true,true,true,false,true,true,false,false,false,false,false] rfl rfl (any_of HT_.out (by kernel_rfl)) (fun _ _ _ h=>h) (Or.inl ⟨by rfl,?_⟩) ?_ ?_
              rotate_left
              ·intro w'
               go_simp
               with_reducible rfl
              rotate_left
              ·simp only [Act.put,List.setIfInBounds_toArray,List.set_cons_zero,List.set_cons_succ,i64_w,i32_w]
               rfl
              refine pure_ (i:=8) (N:=some 73) (v:=?_) (a':=?_) #[true,true,true,true,true,false,true,true,true,false,false,false,false] rfl rfl (any_of HT_.out (by kernel_rfl)) (fun _ _ _ h=>h) (Or.inl ⟨by rfl,?_⟩) ?_ ?_
              rotate_left
              ·intro w'
               go_simp
               with_reducible rfl
              rotate_left
              ·simp only [Act.put,List.setIfInBounds_toArray,List.set_cons_zero,List.set_cons_succ,i64_w,i32_w]
               rfl
              refine take_ (i:=5) (N:=some 70) (v:=?_) (a':=?_) #[true,true,true,true,true,true,true,true,true,false,false,false,false] rfl rfl (take_ofW HT_.out HW_.out (by kernel_rfl)) (fun _ _ _ h=>h) (Or.inl ⟨by rfl,?_⟩) hHeld ?_ ?_
              rotate_left
              ·rintro w' ⟨s0,s1⟩
               go_simp
               with_reducible rfl
              rotate_left
              ·simp only [Act.put,List.setIfInBounds_toArray,List.set_cons_zero,List.set_cons_succ,i64_w,i32_w]
               rfl
              refine take_ (i:=9) (N:=some 74) (v:=?_) (a':=?_) #[true,true,true,true,true,true,true,true,true,true,false,false,false] rfl rfl (take_ofW HT_.out HW_.out (by kernel_rfl)) (fun _ _ _ h=>h) (Or.inl ⟨by rfl,?_⟩) hHeld ?_ ?_
              rotate_left
              ·rintro w' ⟨s0,s1⟩
               go_simp
               with_reducible rfl
              rotate_left
              ·simp only [Act.put,List.setIfInBounds_toArray,List.set_cons_zero,List.set_cons_succ,i64_w,i32_w]
               rfl
              refine pure_ (i:=10) (N:=some 75) (v:=?_) (a':=?_) #[true,true,true,true,true,true,true,true,true,true,true,false,false] rfl rfl (any_of HT_.out (by kernel_rfl)) (fun _ _ _ h=>h) (Or.inl ⟨by rfl,?_⟩) ?_ ?_
              rotate_left
              ·intro w'
               go_simp
               with_reducible rfl
              rotate_left
              ·simp only [Act.put,List.setIfInBounds_toArray,List.set_cons_zero,List.set_cons_succ,i64_w,i32_w]
               rfl
              refine pure_ (i:=11) (N:=some 76) (v:=?_) (a':=?_) #[true,true,true,true,true,true,true,true,true,true,true,true,false] rfl rfl (any_of HT_.out (by kernel_rfl)) (fun _ _ _ h=>h) (Or.inl ⟨by rfl,?_⟩) ?_ ?_
              rotate_left
              ·intro w'
               go_simp
               with_reducible rfl
              rotate_left
              ·simp only [Act.put,List.setIfInBounds_toArray,List.set_cons_zero,List.set_cons_succ,i64_w,i32_w]
               rfl
              refine last_ (i:=12) (N:=none) #[true,true,true,true,true,true,true,true,true,true,true,true,true] rfl rfl (one_of HT_.out (by kernel_rfl)) (by decide) (fun K hK=>?_)
              refine skip_ (w1:=?_) (by rfl) rfl ?_ ?_
              rotate_left
              ·go_simp
               rfl
              refine hK.out _ _ ?_
              clear hK K
              refine done_ (done_of HT_.out (by kernel_rfl)) ?_
              try go_wp2
              go_roundg k3
              case measure=>have:=HJ3.out;have:=HK2.out;have:=HK3.out;omega
              case rel=>exact⟨(y241),(wrap64 (ql+1)),(by first|rfl|(simp;done)|(simp [*];done)),H',⟨by have:=HJ3.out;have:=HK2.out;have:=HK3.out;omega⟩,⟨by(with_reducible repeat(first|apply Jf|apply Jg|apply Jb));exact Kd.R_mono (Kd.R_far (p:=⟨go42,(ql:Int).toNat,none⟩) (Kd.R_types qg.out GG42.out (by decide)) (fun _ hk=>hk.2) (.int .i64 (wrap64 ((rd qu ql) - (rd qt ql))))) (fun _ hk=>trivial)⟩,⟨by(with_reducible repeat(first|apply Jf|apply Jg|apply Jb));exact HQ46.out⟩,⟨by(with_reducible repeat(first|apply Jf|apply Jg|apply Jb));exact Kd.R_mono (Kd.R_far (p:=⟨go42,(ql:Int).toNat,none⟩) (Kd.R_mono yb.out (fun k_ hk=>(⟨hk,fun e_=>hk (by rw [e_];rfl)⟩:_∧k_≠go42))) (fun _ hk=>hk.2) (.int .i64 (wrap64 ((rd qu ql) - (rd qt ql))))) (fun _ hk=>hk.1)⟩,⟨by(with_reducible repeat(first|refine Ji ?_ _|refine Jc ?_|refine Jh ?_ _));refine blk_far ?_ (by have h_:=Kd.R_ne qc.out qb.out (by decide);intro e_;exact h_ (by rw [e_];rfl)) _;(with_reducible repeat(first|refine Ji ?_ _|refine Jc ?_|refine Jh ?_ _));exact qb.out⟩,⟨by(with_reducible repeat(first|refine Ji ?_ _|refine Jc ?_|refine Jh ?_ _));refine blk_far ?_ (by have h_:=Kd.R_ne qc.out qa.out (by decide);intro e_;exact h_ (by rw [e_];rfl)) _;(with_reducible repeat(first|refine Ji ?_ _|refine Jc ?_|refine Jh ?_ _));exact qa.out⟩,⟨by repeat(first|(with_reducible first|exact HB.out|apply Jk|apply Je|apply Jj|refine Jd ?_ GB42.out|refine Jd ?_ qh.out|refine Jd ?_ qj.out)|exact HB.out)⟩⟩
             ·rw [if_neg c41] at H
              exact absurd H (by simp)
            ·rw [if_neg c40] at H
             exact absurd H (by simp)
           ·rw [if_neg c39] at H
            exact absurd H (by simp)
          ·rw [if_neg c38] at H
           have c38b0:decide (ql < 16)=false:=decide_eq_false c38
           clear c38
           replace H:=Option.bind_eq_some_iff.mp H
           obtain⟨t242,A470,H⟩:=H
           replace H:(spec_Encode.l2 k3 a2 ya qm t242 0 0 a0_0 a0_1 l0_2 a1_0 a1_1 l1_2)=some (r1,r2):=H
           have A47:=Ja A470
           clear A470
           have H':=Ja H
           clear H
           obtain⟨Ao48,co48,eo48⟩:=Kd.R_slice qc.out
           subst eo48
           go_wp2_with (first|((with_reducible refine gate_callee (f:=54) rfl ?_);refine goesL_ (some 78) rfl rfl Try.func54 (by kernel_rfl) rfl #[.slice Ao48 qu.length co48] rfl (by(try simp only [List.map_toArray,List.map_cons,List.map_nil]);first|done|rfl|(simp only [List.length_drop,List.length_take];rfl)) ?_;(with_reducible refine(spec_l14Turn.calls k3 _ _ qu t242 _ ?side1 ?side2 A47.out).mono ?_);(case side1=>repeat(first|exact(Jm qc.out).2.2|(with_reducible refine Kd.C_alloc ?_ _)|(with_reducible refine Kd.C_drewN ?_ _)|(with_reducible refine Kd.C_drew ?_)));(case side2=>exact(Jm qc.out).2.1);rintro e w49 ⟨v243,rfl,ho0,hb⟩;refine⟨_,rfl,?_⟩;have qn:=Ja (Kd.R_below (by(with_reducible repeat(first|apply Jf|apply Jg|apply Jb));exact qg.out) hb);have qo:=Ja (Kd.R_elder' (by(with_reducible repeat(first|apply Jf|apply Jg|apply Jb));exact qc.out) (Kd.R_base ho0) hb);have qp:=Ja (Kd.R_elder' (by(with_reducible repeat(first|apply Jf|apply Jg|apply Jb));exact yb.out) (Kd.R_base ho0) hb);have qq:=Ja (Kd.R_lower (Kd.R_new' (Kd.R_new' ho0 (Kd.R_lt (by(with_reducible repeat(first|apply Jf|apply Jg|apply Jb));exact qc.out))) (Kd.R_lt (by(with_reducible repeat(first|apply Jf|apply Jg|apply Jb));exact yb.out))) (below_size (by repeat(first|(with_reducible first|exact HB.out|apply Jk|apply Je|apply Jj|refine Jd ?_ qh.out|refine Jd ?_ qj.out)|exact HB.out))));have qs:=Ja (Jo (g:=qk) (o:=.cells #[.int .i64 a0_0,.int .i64 a0_1,.slice A0_2 l0_2.length c0_2] 27 (0,0)) (by(with_reducible repeat(first|refine Ji ?_ _|refine Jc ?_|refine Jh ?_ _));exact qb.out) hb);have zq:=Ja (Jo (g:=qi) (o:=.cells #[.int .i64 a1_0,.int .i64 a1_1,.slice A1_2 l1_2.length c1_2] 27 (0,0)) (by(with_reducible repeat(first|refine Ji ?_ _|refine Jc ?_|refine Jh ?_ _));exact qa.out) hb);have n6_:=Ja (below_step (by repeat(first|(with_reducible first|exact HB.out|apply Jk|apply Je|apply Jj|refine Jd ?_ qh.out|refine Jd ?_ qj.out)|exact HB.out)) hb);clear qg;clear qc;clear yb;clear qb;clear qa;clear HB;have qg:=qn;have qc:=qo;have yb:=qp;have HO244:=qq;have qb:=qs;have qa:=zq;have HB:=n6_;clear qn qo qp qq qs zq n6_;(try clear hb);(try clear hb2);(try clear hk);(try clear hi);(try clear ho0)))
           go_loopg [15,16] k3 (fun kq v15 v16 w'=>∃ (qe:List Int) (qr:Int) (qf:Int),v15=.int .i64 qr∧v16=.int .i64 qf∧Aside0 (spec_Encode.l2 kq a2 ya qm qe qr qf a0_0 a0_1 l0_2 a1_0 a1_1 l1_2=some (r1,r2))∧Aside0 (kq≤k3)∧Aside0 (Kd.R (Kd.int .u8) 5 w' w.heap.size (fun _=>True) v231 ya)∧Aside0 (Kd.R (Kd.int .i64) 2 w' w.heap.size (fun _=>True) v243 qe)∧Aside0 (w'.heap[qk]? = some (.cells #[.int .i64 a0_0,.int .i64 a0_1,(.slice A0_2 l0_2.length c0_2)] 27 (0,0)))∧Aside0 (w'.heap[qi]? = some (.cells #[.int .i64 a1_0,.int .i64 a1_1,(.slice A1_2 l1_2.length c1_2)] 27 (0,0)))∧Aside0 (Below w.heap.size w w'))
           case atStart=>exact⟨(t242),(0),(0),(by first|rfl|(simp;done)|(simp [*];done)),(by first|rfl|(simp;done)|(simp [*];done)),H',⟨Nat.le_refl _⟩,⟨by(with_reducible repeat(first|apply Jf|apply Jg|apply Jb));exact qg.out⟩,⟨by(with_reducible repeat(first|apply Jf|apply Jg|apply Jb));exact Kd.R_mono HO244.out (fun _ hk=>trivial)⟩,⟨by(with_reducible repeat(first|refine Ji ?_ _|refine Jc ?_|refine Jh ?_ _));exact qb.out⟩,⟨by(with_reducible repeat(first|refine Ji ?_ _|refine Jc ?_|refine Jh ?_ _));exact qa.out⟩,⟨by repeat(first|(with_reducible first|exact HB.out|apply Jk|apply Je|apply Jj|refine Jd ?_ qh.out|refine Jd ?_ qj.out)|exact HB.out)⟩⟩
           case round=>
            clear H'
            try clear c1
            try clear c2
            try clear p2
            try clear q2
            try clear hx2
            try clear c3
            try clear c4
            try clear p4
            try clear q4
            try clear hx4
            try clear hf4
            try clear c5
            try clear c6
            try clear p6
            try clear c7
            try clear c10
            try clear c12
            try clear c16
            try clear c20
            try clear c22
            try clear c22b0
            try clear p23
            try clear q23
            try clear hx23
            try clear c24
            try clear p24
            try clear q24
            try clear hx24
            try clear c27
            try clear c38
            try clear c38b0
            try clear c39
            try clear c39b0
            try clear c40
            try clear c40b0
            try clear c41
            try clear c41b0
            try clear p42
            try clear q42
            try clear hx42
            try clear hf42
            try clear yj
            try clear yk
            try clear yl
            try clear ym
            try clear yn
            try clear yo
            try clear yp
            try clear yq
            try clear yr
            try clear ys
            try clear yt
            try clear yu
            try clear hcz28_0
            try clear hcz28_1
            try clear hcz28_2
            try clear hcz30_0
            try clear hcz30_1
            try clear hcz30_2
            try clear hcz31_0
            try clear hcz31_1
            try clear hcz31_2
            try clear hcz34_0
            try clear hcz34_1
            try clear hcz34_2
            try clear hcz36_0
            try clear hcz36_1
            try clear hcz36_2
            try clear yv
            try clear yw
            try clear yx
            try clear yy
            try clear yz
            try clear za
            try clear zb
            try clear zc
            try clear zd
            try clear ze
            try clear zf
            try clear zg
            try clear hfz28_0
            try clear hfz28_1
            try clear hfz28_2
            try clear hfz30_0
            try clear hfz30_1
            try clear hfz30_2
            try clear hfz31_0
            try clear hfz31_1
            try clear hfz31_2
            try clear hfz34_0
            try clear hfz34_1
            try clear hfz34_2
            try clear hfz36_0
            try clear hfz36_1
            try clear hfz36_2
            try clear zh
            try clear zl
            try clear hx42_0
            try clear p2
            try clear p239
            try clear p240
            try clear p42
            try clear p6
            try clear q239
            try clear q240
            try clear q42
            obtain⟨qe,qr,qf,rfl,rfl,HA,HK4,qg,qc,qb,qa,HB⟩:=hrel
            cases gk with
            | zero => exact absurd HA.out (by simp [spec_Encode.l2])
            | succ k4 =>
             have H:=HA.out
             clear HA
             simp only [spec_Encode.l2] at H
             by_cases c50:qf < 16
             ·rw [if_pos c50] at H
              have c50b0:decide (qf < 16)=true:=decide_eq_true c50
              clear c50
              by_cases c51:0≤qf
              ·rw [if_pos c51] at H
               have c51b0:decide (0≤qf)=true:=decide_eq_true c51
               clear c51
               by_cases c52:qf < (qe.length:Int)
               ·rw [if_pos c52] at H
                have c52b0:decide (qf < (qe.length:Int))=true:=decide_eq_true c52
                clear c52
                replace H:=Option.bind_eq_some_iff.mp H
                obtain⟨zu,A530,H⟩:=H
                replace H:((some (qe.set (qf:Int).toNat zu:List Int)).bind fun qv=>(if (rd qv qf)=0 then (spec_Encode.l2 k4 a2 ya qm qv qr (wrap64 (qf+1)) a0_0 a0_1 l0_2 a1_0 a1_1 l1_2) else (spec_Encode.l2 k4 a2 ya qm qv (wrap64 (qf+1)) (wrap64 (qf+1)) a0_0 a0_1 l0_2 a1_0 a1_1 l1_2)))=some (r1,r2):=H
                have A53:=Ja A530
                clear A530
                obtain⟨qv,hy247⟩:∃ y_:List Int,y_=(qe.set (qf:Int).toNat zu):=⟨_,rfl⟩
                replace H:(if (rd qv qf)=0 then (spec_Encode.l2 k4 a2 ya qm qv qr (wrap64 (qf+1)) a0_0 a0_1 l0_2 a1_0 a1_1 l1_2) else (spec_Encode.l2 k4 a2 ya qm qv (wrap64 (qf+1)) (wrap64 (qf+1)) a0_0 a0_1 l0_2 a1_0 a1_1 l1_2))=some (r1,r2):=by first|(rw [hy247];with_reducible exact H)|(have qx:=(Option.bind_some _ _).symm.trans H;rw [hy247];with_reducible exact qx)|(have qx:=(Option.bind_some _ _).symm.trans H;with_reducible exact qx)|with_reducible exact H|(rw [hy247];exact H)|exact H
                have Ny247:=Ja hy247
                clear hy247
                by_cases c55:(rd qv qf)=0
                ·rw [if_pos c55] at H
                 have c55b0:((rd qv qf) == 0)=true:=beq_iff_eq.mpr c55
                 have c55b1:((rd qv qf) != 0)=false:=bne_eq_false_iff_eq.mpr c55
                 clear c55
                 have H':=Ja H
                 clear H
                 obtain⟨Ao56,co56,eo56⟩:=Kd.R_slice qc.out
                 subst eo56
                 have p245:0≤(qf:Int):=of_decide_eq_true (by first|(with_reducible assumption)|assumption)
                 have q245:qf < (qe.length:Int):=of_decide_eq_true (by first|(with_reducible assumption)|assumption)
                 obtain⟨ad245,e245,zm⟩:=Kd.at_int (Jm qc.out).2.2 qf p245 q245
                 cases e245
                 replace p245:=eq_true p245
                 replace q245:=eq_true q245
                 go_wp2_with (first|((with_reducible refine gate_callee (f:=77) rfl ?_);refine goesL_ (some 91) rfl rfl Try.func77 (by kernel_rfl) rfl #[.int .i64 (rd qe qf),.int .i64 (wrap64 (16*a2))] rfl (by(try simp only [List.map_toArray,List.map_cons,List.map_nil]);first|done|rfl|(simp only [List.length_drop,List.length_take];rfl)) ?_;(with_reducible refine(spec_l9Round.calls (rd qe qf) (wrap64 (16*a2)) zu _ A53.out).mono ?_);rintro e w' ⟨rfl,⟨nd,rfl⟩⟩;refine⟨_,rfl,?_⟩;(try(rw [drewN_self wr];generalize hq_:World.drewN wr _=wr;have qn:Aside0 (Kd.R (Kd.int .i64) 2 wr w.heap.size (fun _=>True) (.slice (some ad245) qe.length co56) qe):=⟨by rw [← hq_];exact(by(with_reducible repeat(first|apply Jf|apply Jg|apply Jb));exact qc.out)⟩;have qo:Aside0 (Kd.R (Kd.int .u8) 5 wr w.heap.size (fun _=>True) v231 ya):=⟨by rw [← hq_];exact(by(with_reducible repeat(first|apply Jf|apply Jg|apply Jb));exact qg.out)⟩;have qp:Aside0 (wr.heap[qk]? = some (.cells #[.int .i64 a0_0,.int .i64 a0_1,.slice A0_2 l0_2.length c0_2] 27 (0,0))):=⟨by rw [← hq_];exact(by(with_reducible repeat(first|refine Ji ?_ _|refine Jc ?_|refine Jh ?_ _));exact qb.out)⟩;have qq:Aside0 (wr.heap[qi]? = some (.cells #[.int .i64 a1_0,.int .i64 a1_1,.slice A1_2 l1_2.length c1_2] 27 (0,0))):=⟨by rw [← hq_];exact(by(with_reducible repeat(first|refine Ji ?_ _|refine Jc ?_|refine Jh ?_ _));exact qa.out)⟩;have qs:Aside0 (Below w.heap.size w wr):=⟨by rw [← hq_];exact(by repeat(first|(with_reducible first|exact HB.out|apply Jk|apply Je|apply Jj|refine Jd ?_ qh.out|refine Jd ?_ qj.out)|exact HB.out))⟩;clear qc qg qb qa HB hq_;have qc:=qn;have qg:=qo;have qb:=qp;have qa:=qq;have HB:=qs;clear qn qo qp qq qs));have p54:0≤(qf:Int):=of_decide_eq_true (by first|(with_reducible assumption)|assumption);have q54:(qf:Int) < ((qe.length:Int):Int):=of_decide_eq_true (by first|(with_reducible assumption)|assumption);obtain⟨zp,co54,eo54,gb54,gl54,cl54,HG54⟩:=Kd.R_form qc.out (by omega);(first|cases eo54|(injection eo54 with ea_ en_ ec_;(first|subst ea_|(injection ea_ with ea_;subst ea_));subst ec_;clear en_));have GB54:=Ja gb54;have GG54:=Ja HG54;clear gb54 gl54 HG54;(first|simp only [add_plain] at zm|skip);obtain⟨hx54_0,hf54_0⟩:=Kd.R_celln 0 qc.out (qf:Int) p54 q54;replace p54:=eq_true p54;replace q54:=eq_true q54;obtain⟨hy57_,hz57_⟩:=Kd.R_celln 0 qc.out (qf:Int) (of_decide_eq_true (by first|(with_reducible assumption)|assumption)) (of_decide_eq_true (by first|(with_reducible assumption)|assumption));have HP57:=Kd.R_putg qc.out (qf:Int) zu)|((with_reducible refine gate_store (t:=2) (p:=92) rfl ?_);refine store_event (t:=2) (p:=92) (v:=?vo_w58) (w1:=(wr.setCell ⟨zp,(qf:Int).toNat,none⟩ (.int .i64 zu))) ?hg ?ho ?hn ?hr ?_;(case ho=>rfl);(case hg=>rfl);(case hn=>rfl);(case hr=>first|(go_simp;done)|(go_simp;rfl));intro w58 hw;have hg:wr.grownBy w58 (some zp):=(by rw [hw];exact HP57.2);have hp_:Kd.R (Kd.int .i64) 2 w58 w.heap.size (fun _=>True) (.slice (some ⟨zp,0,none⟩) qe.length co56) qv:=(by rw [hw,Ny247.out];exact HP57.1);clear HP57;have qn:=Ja (Kd.R_over' (v:=(.slice (some ⟨zp,0,none⟩) qe.length co56)) (by(with_reducible repeat(first|apply Jf|apply Jg|apply Jb));exact qg.out) (Kd.R_typed qc.out) (by decide) hg);have qo:=Ja (hp_);have qp:=Ja (blk_grown (g:=qk) (o:=.cells #[.int .i64 a0_0,.int .i64 a0_1,.slice A0_2 l0_2.length c0_2] 27 (0,0)) (by(with_reducible repeat(first|refine Ji ?_ _|refine Jc ?_|refine Jh ?_ _));exact qb.out) hg (Kd.R_ne qc.out qb.out (by decide)));have qq:=Ja (blk_grown (g:=qi) (o:=.cells #[.int .i64 a1_0,.int .i64 a1_1,.slice A1_2 l1_2.length c1_2] 27 (0,0)) (by(with_reducible repeat(first|refine Ji ?_ _|refine Jc ?_|refine Jh ?_ _));exact qa.out) hg (Kd.R_ne qc.out qa.out (by decide)));have qs:=Ja ((by rw [hw];exact Jd (HB.out) GB54.out:Below w.heap.size w w58));clear qg;clear qc;clear qb;clear qa;clear HB;have qg:=qn;have qc:=qo;have qb:=qp;have qa:=qq;have HB:=qs;clear qn qo qp qq qs;clear hg hw hp_;have p248:0≤(qf:Int):=of_decide_eq_true (by first|(with_reducible assumption)|assumption);have q248:qf < (qv.length:Int):=(by have h_:(qf:Int) < ((qe.length:Int):Int):=of_decide_eq_true (by first|(with_reducible assumption)|assumption);first|(have e_:=(Jm qc.out).1;omega)|simpa only [Ny247.out,List.length_set] using h_);have ql248:((qf:Int) < ((qe.length:Int):Int))=True:=eq_true (of_decide_eq_true (by first|(with_reducible assumption)|assumption));obtain⟨ad248,e248,qw⟩:=Kd.at_int (Jm qc.out).2.2 qf p248 q248;obtain rfl:(⟨zp,0,none⟩:Addr)=ad248:=(by injection e248);(first|simp only [add_plain] at qw|simp only [add_at] at qw|simp only [Addr.add,Nat.zero_add] at qw|skip);replace p248:=eq_true p248;replace q248:=eq_true q248))
                 go_roundg k4
                 case measure=>have:=HJ3.out;have:=HK2.out;have:=HK3.out;have:=HK4.out;omega
                 case rel=>exact⟨(qv),(qr),(wrap64 (qf+1)),(by first|rfl|(simp;done)|(simp [*];done)),(by first|rfl|(simp;done)|(simp [*];done)),H',⟨by have:=HJ3.out;have:=HK2.out;have:=HK3.out;have:=HK4.out;omega⟩,⟨by(with_reducible repeat(first|apply Jf|apply Jg|apply Jb));exact qg.out⟩,⟨by(with_reducible repeat(first|apply Jf|apply Jg|apply Jb));exact qc.out⟩,⟨by(with_reducible repeat(first|refine Ji ?_ _|refine Jc ?_|refine Jh ?_ _));exact qb.out⟩,⟨by(with_reducible repeat(first|refine Ji ?_ _|refine Jc ?_|refine Jh ?_ _));exact qa.out⟩,⟨by repeat(first|(with_reducible first|exact HB.out|apply Jk|apply Je|apply Jj|refine Jd ?_ qh.out|refine Jd ?_ qj.out)|exact HB.out)⟩⟩
                ·rw [if_neg c55] at H
                 have c55b0:((rd qv qf) == 0)=false:=beq_eq_false_iff_ne.mpr c55
                 have c55b1:((rd qv qf) != 0)=true:=bne_iff_ne.mpr c55
                 have H':=Ja H
                 clear H
                 obtain⟨Ao59,co59,eo59⟩:=Kd.R_slice qc.out
                 subst eo59
                 have p245:0≤(qf:Int):=of_decide_eq_true (by first|(with_reducible assumption)|assumption)
                 have q245:qf < (qe.length:Int):=of_decide_eq_true (by first|(with_reducible assumption)|assumption)
                 obtain⟨ad245,e245,zm⟩:=Kd.at_int (Jm qc.out).2.2 qf p245 q245
                 cases e245
                 replace p245:=eq_true p245
                 replace q245:=eq_true q245
                 go_wp2_with (first|((with_reducible refine gate_callee (f:=77) rfl ?_);refine goesL_ (some 91) rfl rfl Try.func77 (by kernel_rfl) rfl #[.int .i64 (rd qe qf),.int .i64 (wrap64 (16*a2))] rfl (by(try simp only [List.map_toArray,List.map_cons,List.map_nil]);first|done|rfl|(simp only [List.length_drop,List.length_take];rfl)) ?_;(with_reducible refine(spec_l9Round.calls (rd qe qf) (wrap64 (16*a2)) zu _ A53.out).mono ?_);rintro e w' ⟨rfl,⟨nd,rfl⟩⟩;refine⟨_,rfl,?_⟩;(try(rw [drewN_self wr];generalize hq_:World.drewN wr _=wr;have qn:Aside0 (Kd.R (Kd.int .i64) 2 wr w.heap.size (fun _=>True) (.slice (some ad245) qe.length co59) qe):=⟨by rw [← hq_];exact(by(with_reducible repeat(first|apply Jf|apply Jg|apply Jb));exact qc.out)⟩;have qo:Aside0 (Kd.R (Kd.int .u8) 5 wr w.heap.size (fun _=>True) v231 ya):=⟨by rw [← hq_];exact(by(with_reducible repeat(first|apply Jf|apply Jg|apply Jb));exact qg.out)⟩;have qp:Aside0 (wr.heap[qk]? = some (.cells #[.int .i64 a0_0,.int .i64 a0_1,.slice A0_2 l0_2.length c0_2] 27 (0,0))):=⟨by rw [← hq_];exact(by(with_reducible repeat(first|refine Ji ?_ _|refine Jc ?_|refine Jh ?_ _));exact qb.out)⟩;have qq:Aside0 (wr.heap[qi]? = some (.cells #[.int .i64 a1_0,.int .i64 a1_1,.slice A1_2 l1_2.length c1_2] 27 (0,0))):=⟨by rw [← hq_];exact(by(with_reducible repeat(first|refine Ji ?_ _|refine Jc ?_|refine Jh ?_ _));exact qa.out)⟩;have qs:Aside0 (Below w.heap.size w wr):=⟨by rw [← hq_];exact(by repeat(first|(with_reducible first|exact HB.out|apply Jk|apply Je|apply Jj|refine Jd ?_ qh.out|refine Jd ?_ qj.out)|exact HB.out))⟩;clear qc qg qb qa HB hq_;have qc:=qn;have qg:=qo;have qb:=qp;have qa:=qq;have HB:=qs;clear qn qo qp qq qs));have p54:0≤(qf:Int):=of_decide_eq_true (by first|(with_reducible assumption)|assumption);have q54:(qf:Int) < ((qe.length:Int):Int):=of_decide_eq_true (by first|(with_reducible assumption)|assumption);obtain⟨zp,co54,eo54,gb54,gl54,cl54,HG54⟩:=Kd.R_form qc.out (by omega);(first|cases eo54|(injection eo54 with ea_ en_ ec_;(first|subst ea_|(injection ea_ with ea_;subst ea_));subst ec_;clear en_));have GB54:=Ja gb54;have GG54:=Ja HG54;clear gb54 gl54 HG54;(first|simp only [add_plain] at zm|skip);obtain⟨hx54_0,hf54_0⟩:=Kd.R_celln 0 qc.out (qf:Int) p54 q54;replace p54:=eq_true p54;replace q54:=eq_true q54;obtain⟨hy60_,hz60_⟩:=Kd.R_celln 0 qc.out (qf:Int) (of_decide_eq_true (by first|(with_reducible assumption)|assumption)) (of_decide_eq_true (by first|(with_reducible assumption)|assumption));have HP60:=Kd.R_putg qc.out (qf:Int) zu)|((with_reducible refine gate_store (t:=2) (p:=92) rfl ?_);refine store_event (t:=2) (p:=92) (v:=?vo_w61) (w1:=(wr.setCell ⟨zp,(qf:Int).toNat,none⟩ (.int .i64 zu))) ?hg ?ho ?hn ?hr ?_;(case ho=>rfl);(case hg=>rfl);(case hn=>rfl);(case hr=>first|(go_simp;done)|(go_simp;rfl));intro w61 hw;have hg:wr.grownBy w61 (some zp):=(by rw [hw];exact HP60.2);have hp_:Kd.R (Kd.int .i64) 2 w61 w.heap.size (fun _=>True) (.slice (some ⟨zp,0,none⟩) qe.length co59) qv:=(by rw [hw,Ny247.out];exact HP60.1);clear HP60;have qn:=Ja (Kd.R_over' (v:=(.slice (some ⟨zp,0,none⟩) qe.length co59)) (by(with_reducible repeat(first|apply Jf|apply Jg|apply Jb));exact qg.out) (Kd.R_typed qc.out) (by decide) hg);have qo:=Ja (hp_);have qp:=Ja (blk_grown (g:=qk) (o:=.cells #[.int .i64 a0_0,.int .i64 a0_1,.slice A0_2 l0_2.length c0_2] 27 (0,0)) (by(with_reducible repeat(first|refine Ji ?_ _|refine Jc ?_|refine Jh ?_ _));exact qb.out) hg (Kd.R_ne qc.out qb.out (by decide)));have qq:=Ja (blk_grown (g:=qi) (o:=.cells #[.int .i64 a1_0,.int .i64 a1_1,.slice A1_2 l1_2.length c1_2] 27 (0,0)) (by(with_reducible repeat(first|refine Ji ?_ _|refine Jc ?_|refine Jh ?_ _));exact qa.out) hg (Kd.R_ne qc.out qa.out (by decide)));have qs:=Ja ((by rw [hw];exact Jd (HB.out) GB54.out:Below w.heap.size w w61));clear qg;clear qc;clear qb;clear qa;clear HB;have qg:=qn;have qc:=qo;have qb:=qp;have qa:=qq;have HB:=qs;clear qn qo qp qq qs;clear hg hw hp_;have p248:0≤(qf:Int):=of_decide_eq_true (by first|(with_reducible assumption)|assumption);have q248:qf < (qv.length:Int):=(by have h_:(qf:Int) < ((qe.length:Int):Int):=of_decide_eq_true (by first|(with_reducible assumption)|assumption);first|(have e_:=(Jm qc.out).1;omega)|simpa only [Ny247.out,List.length_set] using h_);have ql248:((qf:Int) < ((qe.length:Int):Int))=True:=eq_true (of_decide_eq_true (by first|(with_reducible assumption)|assumption));obtain⟨ad248,e248,qw⟩:=Kd.at_int (Jm qc.out).2.2 qf p248 q248;obtain rfl:(⟨zp,0,none⟩:Addr)=ad248:=(by injection e248);(first|simp only [add_plain] at qw|simp only [add_at] at qw|simp only [Addr.add,Nat.zero_add] at qw|skip);replace p248:=eq_true p248;replace q248:=eq_true q248))
                 go_roundg k4
                 case measure=>have:=HJ3.out;have:=HK2.out;have:=HK3.out;have:=HK4.out;omega
                 case rel=>exact⟨(qv),(wrap64 (qf+1)),(wrap64 (qf+1)),(by first|rfl|(simp;done)|(simp [*];done)),(by first|rfl|(simp;done)|(simp [*];done)),H',⟨by have:=HJ3.out;have:=HK2.out;have:=HK3.out;have:=HK4.out;omega⟩,⟨by(with_reducible repeat(first|apply Jf|apply Jg|apply Jb));exact qg.out⟩,⟨by(with_reducible repeat(first|apply Jf|apply Jg|apply Jb));exact qc.out⟩,⟨by(with_reducible repeat(first|refine Ji ?_ _|refine Jc ?_|refine Jh ?_ _));exact qb.out⟩,⟨by(with_reducible repeat(first|refine Ji ?_ _|refine Jc ?_|refine Jh ?_ _));exact qa.out⟩,⟨by repeat(first|(with_reducible first|exact HB.out|apply Jk|apply Je|apply Jj|refine Jd ?_ qh.out|refine Jd ?_ qj.out)|exact HB.out)⟩⟩
               ·rw [if_neg c52] at H
                exact absurd H (by simp)
              ·rw [if_neg c51] at H
               exact absurd H (by simp)
             ·rw [if_neg c50] at H
              have c50b0:decide (qf < 16)=false:=decide_eq_false c50
              clear c50
              by_cases c62:ya.length < 140737488355328
              ·rw [if_pos c62] at H
               have LMc62:=Ja c62
               clear c62
               obtain⟨y249,hy249⟩:∃ y_:List Int,y_=(ya ++ [(qr) % 256]):=⟨_,rfl⟩
               replace H:(spec_Encode.l3 k4 a2 y249 qm qe qr 0 a0_0 a0_1 l0_2 a1_0 a1_1 l1_2)=some (r1,r2):=by first|(rw [hy249];with_reducible exact H)|(have qx:=(Option.bind_some _ _).symm.trans H;rw [hy249];with_reducible exact qx)|(have qx:=(Option.bind_some _ _).symm.trans H;with_reducible exact qx)|with_reducible exact H|(rw [hy249];exact H)|exact H
               have Ny249:=Ja hy249
               clear hy249
               have H':=Ja H
               clear H
               go_wp2_with (first|((with_reducible refine gate_builtin (b:=.append) (xs:=#[.tmp 100,.tmp 103]) rfl ?_);at_builtin;refine Kd.R_append (Kd.int .u8) (w0:=w) w.heap.size rfl (.tmp 100) (.tmp 103) 37 5 (.int .u8 0) 1 rfl Try.underlying37 info5 rfl (by decide) (by omega) v231 ya ((qr) % 256) [.int .u8 ((qr) % 256)] (fun _=>True) (fun _=>False) rfl rfl ?aP (fun _ hk=>hk.elim) ?aF ?aO ?aB ?aS ?aL ?_;(case aP=>exact rfl);(case aB=>exact(by repeat(first|(with_reducible first|exact HB.out|apply Jk|apply Je|apply Jj|refine Jd ?_ qh.out|refine Jd ?_ qj.out)|exact HB.out)));(case aF=>exact(fun _ _=>trivial));(case aO=>exact(by(with_reducible repeat(first|apply Jf|apply Jg|apply Jb));exact qg.out));(case aS=>exact(below_size (by repeat(first|(with_reducible first|exact HB.out|apply Jk|apply Je|apply Jj|refine Jd ?_ qh.out|refine Jd ?_ qj.out)|exact HB.out))));(case aL=>have:=LMc62.out;omega);intro v250 w63 ho hb hg hat;rw [← Ny249.out] at ho;have qn:=Ja (Kd.R_over' (by(with_reducible repeat(first|apply Jf|apply Jg|apply Jb));exact qc.out) (Kd.R_typed (by(with_reducible repeat(first|apply Jf|apply Jg|apply Jb));exact qg.out)) (by decide) hg);have qo:=Ja (blk_grown (g:=qk) (o:=.cells #[.int .i64 a0_0,.int .i64 a0_1,.slice A0_2 l0_2.length c0_2] 27 (0,0)) (by(with_reducible repeat(first|refine Ji ?_ _|refine Jc ?_|refine Jh ?_ _));exact qb.out) hg (Kd.R_ne qg.out qb.out (by decide)));have qp:=Ja (blk_grown (g:=qi) (o:=.cells #[.int .i64 a1_0,.int .i64 a1_1,.slice A1_2 l1_2.length c1_2] 27 (0,0)) (by(with_reducible repeat(first|refine Ji ?_ _|refine Jc ?_|refine Jh ?_ _));exact qa.out) hg (Kd.R_ne qg.out qa.out (by decide)));have qq:=Ja (hb);have qs:=Ja (ho);clear qc;clear qb;clear qa;clear HB;clear qg;have qc:=qn;have qb:=qo;have qa:=qp;have HB:=qq;have HO251:=qs;clear qn qo qp qq qs;clear ho hb hg hat))
               go_loopg [8,17] k4 (fun kq v8 v17 w'=>∃ (qy:List Int) (qd:Int),v17=.int .i64 qd∧Aside0 (spec_Encode.l3 kq a2 qy qm qe qr qd a0_0 a0_1 l0_2 a1_0 a1_1 l1_2=some (r1,r2))∧Aside0 (kq≤k4)∧Aside0 (Kd.R (Kd.int .u8) 5 w' w.heap.size (fun _=>True) v8 qy)∧Aside0 (Kd.R (Kd.int .i64) 2 w' w.heap.size (fun _=>True) v243 qe)∧Aside0 (w'.heap[qk]? = some (.cells #[.int .i64 a0_0,.int .i64 a0_1,(.slice A0_2 l0_2.length c0_2)] 27 (0,0)))∧Aside0 (w'.heap[qi]? = some (.cells #[.int .i64 a1_0,.int .i64 a1_1,(.slice A1_2 l1_2.length c1_2)] 27 (0,0)))∧Aside0 (Below w.heap.size w w'))
               case atStart=>exact⟨(y249),(0),(by first|rfl|(simp;done)|(simp [*];done)),H',⟨Nat.le_refl _⟩,⟨by(with_reducible repeat(first|apply Jf|apply Jg|apply Jb));exact HO251.out⟩,⟨by(with_reducible repeat(first|apply Jf|apply Jg|apply Jb));exact qc.out⟩,⟨by(with_reducible repeat(first|refine Ji ?_ _|refine Jc ?_|refine Jh ?_ _));exact qb.out⟩,⟨by(with_reducible repeat(first|refine Ji ?_ _|refine Jc ?_|refine Jh ?_ _));exact qa.out⟩,⟨by repeat(first|(with_reducible first|exact HB.out|apply Jk|apply Je|apply Jj|refine Jd ?_ qh.out|refine Jd ?_ qj.out)|exact HB.out)⟩⟩
               case round=>
                clear H'
                try clear c1
                try clear c2
                try clear p2
                try clear q2
                try clear hx2
                try clear c3
                try clear c4
                try clear p4
                try clear q4
                try clear hx4
                try clear hf4
                try clear c5
                try clear p5
                try clear q5
                try clear hx5
                try clear hf5
                try clear c6
                try clear p6
                try clear c7
                try clear c10
                try clear c12
                try clear c16
                try clear c20
                try clear c22
                try clear c22b0
                try clear p23
                try clear q23
                try clear hx23
                try clear c24
                try clear p24
                try clear q24
                try clear hx24
                try clear c27
                try clear c38
                try clear c38b0
                try clear c39
                try clear c39b0
                try clear c40
                try clear c40b0
                try clear c41
                try clear c41b0
                try clear p42
                try clear q42
                try clear hx42
                try clear hf42
                try clear c50
                try clear c50b0
                try clear c51
                try clear c51b0
                try clear c52
                try clear c52b0
                try clear c54
                try clear p54
                try clear q54
                try clear hx54
                try clear hf54
                try clear c55
                try clear c55b0
                try clear c55b1
                try clear c62
                try clear yj
                try clear yk
                try clear yl
                try clear ym
                try clear yn
                try clear yo
                try clear yp
                try clear yq
                try clear yr
                try clear ys
                try clear yt
                try clear yu
                try clear hcz28_0
                try clear hcz28_1
                try clear hcz28_2
                try clear hcz30_0
                try clear hcz30_1
                try clear hcz30_2
                try clear hcz31_0
                try clear hcz31_1
                try clear hcz31_2
                try clear hcz34_0
                try clear hcz34_1
                try clear hcz34_2
                try clear hcz36_0
                try clear hcz36_1
                try clear hcz36_2
                try clear yv
                try clear yw
                try clear yx
                try clear yy
                try clear yz
                try clear za
                try clear zb
                try clear zc
                try clear zd
                try clear ze
                try clear zf
                try clear zg
                try clear hfz28_0
                try clear hfz28_1
                try clear hfz28_2
                try clear hfz30_0
                try clear hfz30_1
                try clear hfz30_2
                try clear hfz31_0
                try clear hfz31_1
                try clear hfz31_2
                try clear hfz34_0
                try clear hfz34_1
                try clear hfz34_2
                try clear hfz36_0
                try clear hfz36_1
                try clear hfz36_2
                try clear zh
                try clear zl
                try clear zm
                try clear qw
                try clear hx42_0
                try clear hx54_0
                try clear p2
                try clear p23
                try clear p239
                try clear p24
                try clear p240
                try clear p245
                try clear p248
                try clear p4
                try clear p42
                try clear p54
                try clear p6
                try clear q2
                try clear q23
                try clear q239
                try clear q24
                try clear q240
                try clear q245
                try clear q248
                try clear q4
                try clear q42
                try clear q54
                obtain⟨qy,qd,rfl,HA,HK5,qg,qc,qb,qa,HB⟩:=hrel
                cases gk with
                | zero => exact absurd HA.out (by simp [spec_Encode.l3])
                | succ k5 =>
                 have H:=HA.out
                 clear HA
                 simp only [spec_Encode.l3] at H
                 by_cases c64:qd < qr
                 ·rw [if_pos c64] at H
                  have c64b0:decide (qd < qr)=true:=decide_eq_true c64
                  clear c64
                  by_cases c65:0≤qd
                  ·rw [if_pos c65] at H
                   have c65b0:decide (0≤qd)=true:=decide_eq_true c65
                   clear c65
                   by_cases c66:qd < (qe.length:Int)
                   ·rw [if_pos c66] at H
                    have c66b0:decide (qd < (qe.length:Int))=true:=decide_eq_true c66
                    clear c66
                    by_cases c67:(rd qe qd) < 0
                    ·rw [if_pos c67] at H
                     have c67b0:decide ((rd qe qd) < 0)=true:=decide_eq_true c67
                     clear c67
                     by_cases c68:(wrap64 ((wrap64 ((-2)*(rd qe qd))) - 1)) < 255
                     ·rw [if_pos c68] at H
                      have c68b0:decide ((wrap64 ((wrap64 ((-2)*(rd qe qd))) - 1)) < 255)=true:=decide_eq_true c68
                      clear c68
                      by_cases c69:qy.length < 140737488355328
                      ·rw [if_pos c69] at H
                       have LMc69:=Ja c69
                       clear c69
                       obtain⟨y255,hy255⟩:∃ y_:List Int,y_=(qy ++ [(wrap64 ((wrap64 ((-2)*(rd qe qd))) - 1)) % 256]):=⟨_,rfl⟩
                       replace H:(spec_Encode.l3 k5 a2 y255 qm qe qr (wrap64 (qd+1)) a0_0 a0_1 l0_2 a1_0 a1_1 l1_2)=some (r1,r2):=by first|(rw [hy255];with_reducible exact H)|(have qx:=(Option.bind_some _ _).symm.trans H;rw [hy255];with_reducible exact qx)|(have qx:=(Option.bind_some _ _).symm.trans H;with_reducible exact qx)|with_reducible exact H|(rw [hy255];exact H)|exact H
                       have Ny255:=Ja hy255
                       clear hy255
                       have H':=Ja H
                       clear H
                       obtain⟨Ao70,co70,eo70⟩:=Kd.R_slice qc.out
                       subst eo70
                       have ye:0≤(qd:Int):=of_decide_eq_true (by first|(with_reducible assumption)|assumption)
                       have yg:qd < (qe.length:Int):=of_decide_eq_true (by first|(with_reducible assumption)|assumption)
                       obtain⟨yi,e252,hx252_0⟩:=Kd.at_int (Jm qc.out).2.2 qd ye yg
                       cases e252
                       replace ye:=eq_true ye
                       replace yg:=eq_true yg
                       have yf:0≤(qd:Int):=of_decide_eq_true (by first|(with_reducible assumption)|assumption)
                       have yh:qd < (qe.length:Int):=of_decide_eq_true (by first|(with_reducible assumption)|assumption)
                       obtain⟨zo,e253,hx253_0⟩:=Kd.at_int (Jm qc.out).2.2 qd yf yh
                       obtain rfl:yi=zo:=(by injection e253)
                       replace yf:=eq_true yf
                       replace yh:=eq_true yh
                       have p254:0≤(qd:Int):=of_decide_eq_true (by first|(with_reducible assumption)|assumption)
                       have q254:qd < (qe.length:Int):=of_decide_eq_true (by first|(with_reducible assumption)|assumption)
                       obtain⟨ad254,e254,hx254_0⟩:=Kd.at_int (Jm qc.out).2.2 qd p254 q254
                       obtain rfl:yi=ad254:=(by injection e254)
                       replace p254:=eq_true p254
                       replace q254:=eq_true q254
                       go_wp2_with (first|((with_reducible refine gate_builtin (b:=.append) (xs:=#[.tmp 128,.tmp 131]) rfl ?_);at_builtin;refine Kd.R_append (Kd.int .u8) (w0:=w) w.heap.size rfl (.tmp 128) (.tmp 131) 37 5 (.int .u8 0) 1 rfl Try.underlying37 info5 rfl (by decide) (by omega) u8 qy ((wrap64 ((wrap64 ((-2)*(rd qe qd))) - 1)) % 256) [.int .u8 ((wrap64 ((wrap64 ((-2)*(rd qe qd))) - 1)) % 256)] (fun _=>True) (fun _=>False) rfl rfl ?aP (fun _ hk=>hk.elim) ?aF ?aO ?aB ?aS ?aL ?_;(case aP=>exact rfl);(case aB=>exact(by repeat(first|(with_reducible first|exact HB.out|apply Jk|apply Je|apply Jj|refine Jd ?_ qh.out|refine Jd ?_ qj.out)|exact HB.out)));(case aF=>exact(fun _ _=>trivial));(case aO=>exact(by(with_reducible repeat(first|apply Jf|apply Jg|apply Jb));exact qg.out));(case aS=>exact(below_size (by repeat(first|(with_reducible first|exact HB.out|apply Jk|apply Je|apply Jj|refine Jd ?_ qh.out|refine Jd ?_ qj.out)|exact HB.out))));(case aL=>have:=LMc69.out;omega);intro v256 w71 ho hb hg hat;rw [← Ny255.out] at ho;have qn:=Ja (Kd.R_over' (by(with_reducible repeat(first|apply Jf|apply Jg|apply Jb));exact qc.out) (Kd.R_typed (by(with_reducible repeat(first|apply Jf|apply Jg|apply Jb));exact qg.out)) (by decide) hg);have qo:=Ja (blk_grown (g:=qk) (o:=.cells #[.int .i64 a0_0,.int .i64 a0_1,.slice A0_2 l0_2.length c0_2] 27 (0,0)) (by(with_reducible repeat(first|refine Ji ?_ _|refine Jc ?_|refine Jh ?_ _));exact qb.out) hg (Kd.R_ne qg.out qb.out (by decide)));have qp:=Ja (blk_grown (g:=qi) (o:=.cells #[.int .i64 a1_0,.int .i64 a1_1,.slice A1_2 l1_2.length c1_2] 27 (0,0)) (by(with_reducible repeat(first|refine Ji ?_ _|refine Jc ?_|refine Jh ?_ _));exact qa.out) hg (Kd.R_ne qg.out qa.out (by decide)));have qq:=Ja (hb);have qs:=Ja (ho);clear qc;clear qb;clear qa;clear HB;clear qg;have qc:=qn;have qb:=qo;have qa:=qp;have HB:=qq;have HO257:=qs;clear qn qo qp qq qs;clear ho hb hg hat))
                       go_roundg k5
                       case measure=>have:=HJ3.out;have:=HK2.out;have:=HK3.out;have:=HK4.out;have:=HK5.out;omega
                       case rel=>exact⟨(y255),(wrap64 (qd+1)),(by first|rfl|(simp;done)|(simp [*];done)),H',⟨by have:=HJ3.out;have:=HK2.out;have:=HK3.out;have:=HK4.out;have:=HK5.out;omega⟩,⟨by(with_reducible repeat(first|apply Jf|apply Jg|apply Jb));exact HO257.out⟩,⟨by(with_reducible repeat(first|apply Jf|apply Jg|apply Jb));exact qc.out⟩,⟨by(with_reducible repeat(first|refine Ji ?_ _|refine Jc ?_|refine Jh ?_ _));exact qb.out⟩,⟨by(with_reducible repeat(first|refine Ji ?_ _|refine Jc ?_|refine Jh ?_ _));exact qa.out⟩,⟨by repeat(first|(with_reducible first|exact HB.out|apply Jk|apply Je|apply Jj|refine Jd ?_ qh.out|refine Jd ?_ qj.out)|exact HB.out)⟩⟩
                      ·rw [if_neg c69] at H
                       exact absurd H (by simp)
                     ·rw [if_neg c68] at H
                      have c68b0:decide ((wrap64 ((wrap64 ((-2)*(rd qe qd))) - 1)) < 255)=false:=decide_eq_false c68
                      clear c68
                      obtain⟨y258,hy258⟩:∃ y_:List Int,y_=(([255,(wrap64 (Int.tdiv (wrap64 ((wrap64 ((-2)*(rd qe qd))) - 1)) 256)) % 256,(Int.tmod (wrap64 ((wrap64 ((-2)*(rd qe qd))) - 1)) 256) % 256]:List Int)):=⟨_,rfl⟩
                      replace H:(if qy.length+y258.length < 140737488355328 then (spec_Encode.l3 k5 a2 (qy ++ y258) qm qe qr (wrap64 (qd+1)) a0_0 a0_1 l0_2 a1_0 a1_1 l1_2) else (none))=some (r1,r2):=by first|(rw [hy258];with_reducible exact H)|(have qx:=(Option.bind_some _ _).symm.trans H;rw [hy258];with_reducible exact qx)|(have qx:=(Option.bind_some _ _).symm.trans H;with_reducible exact qx)|with_reducible exact H|(rw [hy258];exact H)|exact H
                      have Ny258:=Ja hy258
                      clear hy258
                      by_cases c72:qy.length+y258.length < 140737488355328
                      ·rw [if_pos c72] at H
                       have LMc72:=Ja c72
                       clear c72
                       obtain⟨y261,hy261⟩:∃ y_:List Int,y_=(qy ++ y258):=⟨_,rfl⟩
                       replace H:(spec_Encode.l3 k5 a2 y261 qm qe qr (wrap64 (qd+1)) a0_0 a0_1 l0_2 a1_0 a1_1 l1_2)=some (r1,r2):=by first|(rw [hy261];with_reducible exact H)|(have qx:=(Option.bind_some _ _).symm.trans H;rw [hy261];with_reducible exact qx)|(have qx:=(Option.bind_some _ _).symm.trans H;with_reducible exact qx)|with_reducible exact H|(rw [hy261];exact H)|exact H
                       have Ny261:=Ja hy261
                       clear hy261
                       have H':=Ja H
                       clear H
                       obtain⟨Ao73,co73,eo73⟩:=Kd.R_slice qc.out
                       subst eo73
                       have ye:0≤(qd:Int):=of_decide_eq_true (by first|(with_reducible assumption)|assumption)
                       have yg:qd < (qe.length:Int):=of_decide_eq_true (by first|(with_reducible assumption)|assumption)
                       obtain⟨yi,e252,hx252_0⟩:=Kd.at_int (Jm qc.out).2.2 qd ye yg
                       cases e252
                       replace ye:=eq_true ye
                       replace yg:=eq_true yg
                       have yf:0≤(qd:Int):=of_decide_eq_true (by first|(with_reducible assumption)|assumption)
                       have yh:qd < (qe.length:Int):=of_decide_eq_true (by first|(with_reducible assumption)|assumption)
                       obtain⟨zo,e253,hx253_0⟩:=Kd.at_int (Jm qc.out).2.2 qd yf yh
                       obtain rfl:yi=zo:=(by injection e253)
                       replace yf:=eq_true yf
                       replace yh:=eq_true yh
                       have p254:0≤(qd:Int):=of_decide_eq_true (by first|(with_reducible assumption)|assumption)
                       have q254:qd < (qe.length:Int):=of_decide_eq_true (by first|(with_reducible assumption)|assumption)
                       obtain⟨ad254,e254,hx254_0⟩:=Kd.at_int (Jm qc.out).2.2 qd p254 q254
                       obtain rfl:yi=ad254:=(by injection e254)
                       replace p254:=eq_true p254
                       replace q254:=eq_true q254
                       go_wp2_with (first|((with_reducible refine gate_dst (N:=140) rfl ?_);refine Kd.R_lit (Kd.int .u8) _ 5 ?hg (N:=140) ?hd (xs:=([255,(wrap64 (Int.tdiv (wrap64 ((wrap64 ((-2)*(rd qe qd))) - 1)) 256)) % 256,(Int.tmod (wrap64 ((wrap64 ((-2)*(rd qe qd))) - 1)) 256) % 256]:List Int)) (inner:=[.int .u8 255,.int .u8 ((wrap64 (Int.tdiv (wrap64 ((wrap64 ((-2)*(rd qe qd))) - 1)) 256)) % 256),.int .u8 ((Int.tmod (wrap64 ((wrap64 ((-2)*(rd qe qd))) - 1)) 256) % 256)]) (ok:=fun _=>True) (okp:=fun _=>True) ?hr ?hp (fun _ hk=>hk) trivial (Below.refl _ _) (Nat.le_refl _) (by simp) ?_;(case hd=>rfl);(case hg=>rfl);(case hr=>first|(go_simp;done)|(go_simp;rfl));(case hp=>exact(Reps.one (show Kd.M (Kd.int .u8) _ _ _ 255 [.int .u8 255] from rfl) (Reps.one (show Kd.M (Kd.int .u8) _ _ _ ((wrap64 (Int.tdiv (wrap64 ((wrap64 ((-2)*(rd qe qd))) - 1)) 256)) % 256) [.int .u8 ((wrap64 (Int.tdiv (wrap64 ((wrap64 ((-2)*(rd qe qd))) - 1)) 256)) % 256)] from rfl) (Reps.one (show Kd.M (Kd.int .u8) _ _ _ ((Int.tmod (wrap64 ((wrap64 ((-2)*(rd qe qd))) - 1)) 256) % 256) [.int .u8 ((Int.tmod (wrap64 ((wrap64 ((-2)*(rd qe qd))) - 1)) 256) % 256)] from rfl) (Reps.none _ _)))));intro v259 w74 ho75 hb hg_ hnew_;clear hg_ hnew_;(first|rw [← Ny258.out] at ho75|(simp only [Int.reduceToNat] at ho75;rw [← Ny258.out] at ho75));have qn:=Ja (Kd.R_elder' (by(with_reducible repeat(first|apply Jf|apply Jg|apply Jb));exact qg.out) (Kd.R_base ho75) hb);have qo:=Ja (Kd.R_below (by(with_reducible repeat(first|apply Jf|apply Jg|apply Jb));exact qc.out) hb);have qp:=Ja (Kd.R_lower (Kd.R_new' ho75 (Kd.R_lt (by(with_reducible repeat(first|apply Jf|apply Jg|apply Jb));exact qg.out))) (below_size (by repeat(first|(with_reducible first|exact HB.out|apply Jk|apply Je|apply Jj|refine Jd ?_ qh.out|refine Jd ?_ qj.out)|exact HB.out))));have qq:=Ja (Jo (g:=qk) (o:=.cells #[.int .i64 a0_0,.int .i64 a0_1,.slice A0_2 l0_2.length c0_2] 27 (0,0)) (by(with_reducible repeat(first|refine Ji ?_ _|refine Jc ?_|refine Jh ?_ _));exact qb.out) hb);have qs:=Ja (Jo (g:=qi) (o:=.cells #[.int .i64 a1_0,.int .i64 a1_1,.slice A1_2 l1_2.length c1_2] 27 (0,0)) (by(with_reducible repeat(first|refine Ji ?_ _|refine Jc ?_|refine Jh ?_ _));exact qa.out) hb);have zq:=Ja (below_step (by repeat(first|(with_reducible first|exact HB.out|apply Jk|apply Je|apply Jj|refine Jd ?_ qh.out|refine Jd ?_ qj.out)|exact HB.out)) hb);clear qg;clear qc;clear qb;clear qa;clear HB;have qg:=qn;have qc:=qo;have zw:=qp;have qb:=qq;have qa:=qs;have HB:=zq;clear qn qo qp qq qs zq;clear hb ho75;obtain⟨Ao77,co77,eo77⟩:=Kd.R_slice zw.out;subst eo77)|((with_reducible refine gate_builtin (b:=.append) (xs:=#[.tmp 133,.tmp 140]) rfl ?_);at_builtin;refine Kd.R_append_rows (Kd.int .u8) (w0:=w) w.heap.size rfl (.tmp 133) (.tmp 140) 37 5 (.int .u8 0) 1 rfl Try.underlying37 info5 rfl (by decide) (by omega) u8 qy y258 _ _ _ (fun k_=>some k_≠(.slice Ao77 y258.length co77:Value).ownBlock) (fun _=>False) rfl rfl ?aO ?aR (fun _ _ h=>h) (fun _ h=>h.elim) ?aF ?aB ?aS ?aL ?_;(case aR=>repeat(first|exact(Jm zw.out).2.2|(with_reducible refine Kd.C_alloc ?_ _)|(with_reducible refine Kd.C_drewN ?_ _)|(with_reducible refine Kd.C_drew ?_)));(case aB=>exact(by repeat(first|(with_reducible first|exact HB.out|apply Jk|apply Je|apply Jj|refine Jd ?_ qh.out|refine Jd ?_ qj.out)|exact HB.out)));(case aF=>exact(fun k_ hk=>Kd.fresh' (Kd.R_lt (by(with_reducible repeat(first|apply Jf|apply Jg|apply Jb));exact zw.out)) k_ hk));(case aO=>exact(by(with_reducible repeat(first|apply Jf|apply Jg|apply Jb));exact Kd.R_mono qg.out (fun _ hk=>hk.2)));(case aS=>exact(below_size (by repeat(first|(with_reducible first|exact HB.out|apply Jk|apply Je|apply Jj|refine Jd ?_ qh.out|refine Jd ?_ qj.out)|exact HB.out))));(case aL=>have:=LMc72.out;omega);intro v262 w76 ho hb hg hat;rw [← Ny261.out] at ho;have qn:=Ja (Kd.R_over' (by(with_reducible repeat(first|apply Jf|apply Jg|apply Jb));exact qc.out) (Kd.R_typed (by(with_reducible repeat(first|apply Jf|apply Jg|apply Jb));exact qg.out)) (by decide) hg);have qo:=Ja (blk_grown (g:=qk) (o:=.cells #[.int .i64 a0_0,.int .i64 a0_1,.slice A0_2 l0_2.length c0_2] 27 (0,0)) (by(with_reducible repeat(first|refine Ji ?_ _|refine Jc ?_|refine Jh ?_ _));exact qb.out) hg (Kd.R_ne qg.out qb.out (by decide)));have qp:=Ja (blk_grown (g:=qi) (o:=.cells #[.int .i64 a1_0,.int .i64 a1_1,.slice A1_2 l1_2.length c1_2] 27 (0,0)) (by(with_reducible repeat(first|refine Ji ?_ _|refine Jc ?_|refine Jh ?_ _));exact qa.out) hg (Kd.R_ne qg.out qa.out (by decide)));have qq:=Ja (Kd.R_after (ok:=(fun _=>True)) (by(with_reducible repeat(first|apply Jf|apply Jg|apply Jb));exact zw.out) hg hat);have qs:=Ja (hb);have zq:=Ja (ho);clear qc;clear qb;clear qa;clear zw;clear HB;clear qg;have qc:=qn;have qb:=qo;have qa:=qp;have zw:=qq;have HB:=qs;have HO263:=zq;clear qn qo qp qq qs zq;clear ho hb hg hat))
                       go_roundg k5
                       case measure=>have:=HJ3.out;have:=HK2.out;have:=HK3.out;have:=HK4.out;have:=HK5.out;omega
                       case rel=>exact⟨(y261),(wrap64 (qd+1)),(by first|rfl|(simp;done)|(simp [*];done)),H',⟨by have:=HJ3.out;have:=HK2.out;have:=HK3.out;have:=HK4.out;have:=HK5.out;omega⟩,⟨by(with_reducible repeat(first|apply Jf|apply Jg|apply Jb));exact Kd.R_mono HO263.out (fun _ hk=>trivial)⟩,⟨by(with_reducible repeat(first|apply Jf|apply Jg|apply Jb));exact qc.out⟩,⟨by(with_reducible repeat(first|refine Ji ?_ _|refine Jc ?_|refine Jh ?_ _));exact qb.out⟩,⟨by(with_reducible repeat(first|refine Ji ?_ _|refine Jc ?_|refine Jh ?_ _));exact qa.out⟩,⟨by repeat(first|(with_reducible first|exact HB.out|apply Jk|apply Je|apply Jj|refine Jd ?_ qh.out|refine Jd ?_ qj.out)|exact HB.out)⟩⟩
                      ·rw [if_neg c72] at H
                       exact absurd H (by simp)
                    ·rw [if_neg c67] at H
                     have c67b0:decide ((rd qe qd) < 0)=false:=decide_eq_false c67
                     clear c67
                     by_cases c78:(wrap64 (2*(rd qe qd))) < 255
                     ·rw [if_pos c78] at H
                      have c78b0:decide ((wrap64 (2*(rd qe qd))) < 255)=true:=decide_eq_true c78
                      clear c78
                      by_cases c79:qy.length < 140737488355328
                      ·rw [if_pos c79] at H
                       have LMc79:=Ja c79
                       clear c79
                       obtain⟨y264,hy264⟩:∃ y_:List Int,y_=(qy ++ [(wrap64 (2*(rd qe qd))) % 256]):=⟨_,rfl⟩
                       replace H:(spec_Encode.l3 k5 a2 y264 qm qe qr (wrap64 (qd+1)) a0_0 a0_1 l0_2 a1_0 a1_1 l1_2)=some (r1,r2):=by first|(rw [hy264];with_reducible exact H)|(have qx:=(Option.bind_some _ _).symm.trans H;rw [hy264];with_reducible exact qx)|(have qx:=(Option.bind_some _ _).symm.trans H;with_reducible exact qx)|with_reducible exact H|(rw [hy264];exact H)|exact H
                       have Ny264:=Ja hy264
                       clear hy264
                       have H':=Ja H
                       clear H
                       obtain⟨Ao80,co80,eo80⟩:=Kd.R_slice qc.out
                       subst eo80
                       have ye:0≤(qd:Int):=of_decide_eq_true (by first|(with_reducible assumption)|assumption)
                       have yg:qd < (qe.length:Int):=of_decide_eq_true (by first|(with_reducible assumption)|assumption)
                       obtain⟨yi,e252,hx252_0⟩:=Kd.at_int (Jm qc.out).2.2 qd ye yg
                       cases e252
                       replace ye:=eq_true ye
                       replace yg:=eq_true yg
                       have yf:0≤(qd:Int):=of_decide_eq_true (by first|(with_reducible assumption)|assumption)
                       have yh:qd < (qe.length:Int):=of_decide_eq_true (by first|(with_reducible assumption)|assumption)
                       obtain⟨zo,e253,hx253_0⟩:=Kd.at_int (Jm qc.out).2.2 qd yf yh
                       obtain rfl:yi=zo:=(by injection e253)
                       replace yf:=eq_true yf
                       replace yh:=eq_true yh
                       go_wp2_with (first|((with_reducible refine gate_builtin (b:=.append) (xs:=#[.tmp 128,.tmp 131]) rfl ?_);at_builtin;refine Kd.R_append (Kd.int .u8) (w0:=w) w.heap.size rfl (.tmp 128) (.tmp 131) 37 5 (.int .u8 0) 1 rfl Try.underlying37 info5 rfl (by decide) (by omega) u8 qy ((wrap64 (2*(rd qe qd))) % 256) [.int .u8 ((wrap64 (2*(rd qe qd))) % 256)] (fun _=>True) (fun _=>False) rfl rfl ?aP (fun _ hk=>hk.elim) ?aF ?aO ?aB ?aS ?aL ?_;(case aP=>exact rfl);(case aB=>exact(by repeat(first|(with_reducible first|exact HB.out|apply Jk|apply Je|apply Jj|refine Jd ?_ qh.out|refine Jd ?_ qj.out)|exact HB.out)));(case aF=>exact(fun _ _=>trivial));(case aO=>exact(by(with_reducible repeat(first|apply Jf|apply Jg|apply Jb));exact qg.out));(case aS=>exact(below_size (by repeat(first|(with_reducible first|exact HB.out|apply Jk|apply Je|apply Jj|refine Jd ?_ qh.out|refine Jd ?_ qj.out)|exact HB.out))));(case aL=>have:=LMc79.out;omega);intro v265 w81 ho hb hg hat;rw [← Ny264.out] at ho;have qn:=Ja (Kd.R_over' (by(with_reducible repeat(first|apply Jf|apply Jg|apply Jb));exact qc.out) (Kd.R_typed (by(with_reducible repeat(first|apply Jf|apply Jg|apply Jb));exact qg.out)) (by decide) hg);have qo:=Ja (blk_grown (g:=qk) (o:=.cells #[.int .i64 a0_0,.int .i64 a0_1,.slice A0_2 l0_2.length c0_2] 27 (0,0)) (by(with_reducible repeat(first|refine Ji ?_ _|refine Jc ?_|refine Jh ?_ _));exact qb.out) hg (Kd.R_ne qg.out qb.out (by decide)));have qp:=Ja (blk_grown (g:=qi) (o:=.cells #[.int .i64 a1_0,.int .i64 a1_1,.slice A1_2 l1_2.length c1_2] 27 (0,0)) (by(with_reducible repeat(first|refine Ji ?_ _|refine Jc ?_|refine Jh ?_ _));exact qa.out) hg (Kd.R_ne qg.out qa.out (by decide)));have qq:=Ja (hb);have qs:=Ja (ho);clear qc;clear qb;clear qa;clear HB;clear qg;have qc:=qn;have qb:=qo;have qa:=qp;have HB:=qq;have HO266:=qs;clear qn qo qp qq qs;clear ho hb hg hat))
                       go_roundg k5
                       case measure=>have:=HJ3.out;have:=HK2.out;have:=HK3.out;have:=HK4.out;have:=HK5.out;omega
                       case rel=>exact⟨(y264),(wrap64 (qd+1)),(by first|rfl|(simp;done)|(simp [*];done)),H',⟨by have:=HJ3.out;have:=HK2.out;have:=HK3.out;have:=HK4.out;have:=HK5.out;omega⟩,⟨by(with_reducible repeat(first|apply Jf|apply Jg|apply Jb));exact HO266.out⟩,⟨by(with_reducible repeat(first|apply Jf|apply Jg|apply Jb));exact qc.out⟩,⟨by(with_reducible repeat(first|refine Ji ?_ _|refine Jc ?_|refine Jh ?_ _));exact qb.out⟩,⟨by(with_reducible repeat(first|refine Ji ?_ _|refine Jc ?_|refine Jh ?_ _));exact qa.out⟩,⟨by repeat(first|(with_reducible first|exact HB.out|apply Jk|apply Je|apply Jj|refine Jd ?_ qh.out|refine Jd ?_ qj.out)|exact HB.out)⟩⟩
                      ·rw [if_neg c79] at H
                       exact absurd H (by simp)
                     ·rw [if_neg c78] at H
                      have c78b0:decide ((wrap64 (2*(rd qe qd))) < 255)=false:=decide_eq_false c78
                      clear c78
                      obtain⟨y267,hy267⟩:∃ y_:List Int,y_=(([255,(wrap64 (Int.tdiv (wrap64 (2*(rd qe qd))) 256)) % 256,(Int.tmod (wrap64 (2*(rd qe qd))) 256) % 256]:List Int)):=⟨_,rfl⟩
                      replace H:(if qy.length+y267.length < 140737488355328 then (spec_Encode.l3 k5 a2 (qy ++ y267) qm qe qr (wrap64 (qd+1)) a0_0 a0_1 l0_2 a1_0 a1_1 l1_2) else (none))=some (r1,r2):=by first|(rw [hy267];with_reducible exact H)|(have qx:=(Option.bind_some _ _).symm.trans H;rw [hy267];with_reducible exact qx)|(have qx:=(Option.bind_some _ _).symm.trans H;with_reducible exact qx)|with_reducible exact H|(rw [hy267];exact H)|exact H
                      have Ny267:=Ja hy267
                      clear hy267
                      by_cases c82:qy.length+y267.length < 140737488355328
                      ·rw [if_pos c82] at H
                       have LMc82:=Ja c82
                       clear c82
                       obtain⟨y270,hy270⟩:∃ y_:List Int,y_=(qy ++ y267):=⟨_,rfl⟩
                       replace H:(spec_Encode.l3 k5 a2 y270 qm qe qr (wrap64 (qd+1)) a0_0 a0_1 l0_2 a1_0 a1_1 l1_2)=some (r1,r2):=by first|(rw [hy270];with_reducible exact H)|(have qx:=(Option.bind_some _ _).symm.trans H;rw [hy270];with_reducible exact qx)|(have qx:=(Option.bind_some _ _).symm.trans H;with_reducible exact qx)|with_reducible exact H|(rw [hy270];exact H)|exact H
                       have Ny270:=Ja hy270
                       clear hy270
                       have H':=Ja H
                       clear H
                       obtain⟨Ao83,co83,eo83⟩:=Kd.R_slice qc.out
                       subst eo83
                       have ye:0≤(qd:Int):=of_decide_eq_true (by first|(with_reducible assumption)|assumption)
                       have yg:qd < (qe.length:Int):=of_decide_eq_true (by first|(with_reducible assumption)|assumption)
                       obtain⟨yi,e252,hx252_0⟩:=Kd.at_int (Jm qc.out).2.2 qd ye yg
                       cases e252
                       replace ye:=eq_true ye
                       replace yg:=eq_true yg
                       have yf:0≤(qd:Int):=of_decide_eq_true (by first|(with_reducible assumption)|assumption)
                       have yh:qd < (qe.length:Int):=of_decide_eq_true (by first|(with_reducible assumption)|assumption)
                       obtain⟨zo,e253,hx253_0⟩:=Kd.at_int (Jm qc.out).2.2 qd yf yh
                       obtain rfl:yi=zo:=(by injection e253)
                       replace yf:=eq_true yf
                       replace yh:=eq_true yh
                       go_wp2_with (first|((with_reducible refine gate_dst (N:=140) rfl ?_);refine Kd.R_lit (Kd.int .u8) _ 5 ?hg (N:=140) ?hd (xs:=([255,(wrap64 (Int.tdiv (wrap64 (2*(rd qe qd))) 256)) % 256,(Int.tmod (wrap64 (2*(rd qe qd))) 256) % 256]:List Int)) (inner:=[.int .u8 255,.int .u8 ((wrap64 (Int.tdiv (wrap64 (2*(rd qe qd))) 256)) % 256),.int .u8 ((Int.tmod (wrap64 (2*(rd qe qd))) 256) % 256)]) (ok:=fun _=>True) (okp:=fun _=>True) ?hr ?hp (fun _ hk=>hk) trivial (Below.refl _ _) (Nat.le_refl _) (by simp) ?_;(case hd=>rfl);(case hg=>rfl);(case hr=>first|(go_simp;done)|(go_simp;rfl));(case hp=>exact(Reps.one (show Kd.M (Kd.int .u8) _ _ _ 255 [.int .u8 255] from rfl) (Reps.one (show Kd.M (Kd.int .u8) _ _ _ ((wrap64 (Int.tdiv (wrap64 (2*(rd qe qd))) 256)) % 256) [.int .u8 ((wrap64 (Int.tdiv (wrap64 (2*(rd qe qd))) 256)) % 256)] from rfl) (Reps.one (show Kd.M (Kd.int .u8) _ _ _ ((Int.tmod (wrap64 (2*(rd qe qd))) 256) % 256) [.int .u8 ((Int.tmod (wrap64 (2*(rd qe qd))) 256) % 256)] from rfl) (Reps.none _ _)))));intro v268 w84 ho85 hb hg_ hnew_;clear hg_ hnew_;(first|rw [← Ny267.out] at ho85|(simp only [Int.reduceToNat] at ho85;rw [← Ny267.out] at ho85));have qn:=Ja (Kd.R_elder' (by(with_reducible repeat(first|apply Jf|apply Jg|apply Jb));exact qg.out) (Kd.R_base ho85) hb);have qo:=Ja (Kd.R_below (by(with_reducible repeat(first|apply Jf|apply Jg|apply Jb));exact qc.out) hb);have qp:=Ja (Kd.R_lower (Kd.R_new' ho85 (Kd.R_lt (by(with_reducible repeat(first|apply Jf|apply Jg|apply Jb));exact qg.out))) (below_size (by repeat(first|(with_reducible first|exact HB.out|apply Jk|apply Je|apply Jj|refine Jd ?_ qh.out|refine Jd ?_ qj.out)|exact HB.out))));have qq:=Ja (Jo (g:=qk) (o:=.cells #[.int .i64 a0_0,.int .i64 a0_1,.slice A0_2 l0_2.length c0_2] 27 (0,0)) (by(with_reducible repeat(first|refine Ji ?_ _|refine Jc ?_|refine Jh ?_ _));exact qb.out) hb);have qs:=Ja (Jo (g:=qi) (o:=.cells #[.int .i64 a1_0,.int .i64 a1_1,.slice A1_2 l1_2.length c1_2] 27 (0,0)) (by(with_reducible repeat(first|refine Ji ?_ _|refine Jc ?_|refine Jh ?_ _));exact qa.out) hb);have zq:=Ja (below_step (by repeat(first|(with_reducible first|exact HB.out|apply Jk|apply Je|apply Jj|refine Jd ?_ qh.out|refine Jd ?_ qj.out)|exact HB.out)) hb);clear qg;clear qc;clear qb;clear qa;clear HB;have qg:=qn;have qc:=qo;have zx:=qp;have qb:=qq;have qa:=qs;have HB:=zq;clear qn qo qp qq qs zq;clear hb ho85;obtain⟨Ao87,co87,eo87⟩:=Kd.R_slice zx.out;subst eo87)|((with_reducible refine gate_builtin (b:=.append) (xs:=#[.tmp 133,.tmp 140]) rfl ?_);at_builtin;refine Kd.R_append_rows (Kd.int .u8) (w0:=w) w.heap.size rfl (.tmp 133) (.tmp 140) 37 5 (.int .u8 0) 1 rfl Try.underlying37 info5 rfl (by decide) (by omega) u8 qy y267 _ _ _ (fun k_=>some k_≠(.slice Ao87 y267.length co87:Value).ownBlock) (fun _=>False) rfl rfl ?aO ?aR (fun _ _ h=>h) (fun _ h=>h.elim) ?aF ?aB ?aS ?aL ?_;(case aR=>repeat(first|exact(Jm zx.out).2.2|(with_reducible refine Kd.C_alloc ?_ _)|(with_reducible refine Kd.C_drewN ?_ _)|(with_reducible refine Kd.C_drew ?_)));(case aB=>exact(by repeat(first|(with_reducible first|exact HB.out|apply Jk|apply Je|apply Jj|refine Jd ?_ qh.out|refine Jd ?_ qj.out)|exact HB.out)));(case aF=>exact(fun k_ hk=>Kd.fresh' (Kd.R_lt (by(with_reducible repeat(first|apply Jf|apply Jg|apply Jb));exact zx.out)) k_ hk));(case aO=>exact(by(with_reducible repeat(first|apply Jf|apply Jg|apply Jb));exact Kd.R_mono qg.out (fun _ hk=>hk.2)));(case aS=>exact(below_size (by repeat(first|(with_reducible first|exact HB.out|apply Jk|apply Je|apply Jj|refine Jd ?_ qh.out|refine Jd ?_ qj.out)|exact HB.out))));(case aL=>have:=LMc82.out;omega);intro v271 w86 ho hb hg hat;rw [← Ny270.out] at ho;have qn:=Ja (Kd.R_over' (by(with_reducible repeat(first|apply Jf|apply Jg|apply Jb));exact qc.out) (Kd.R_typed (by(with_reducible repeat(first|apply Jf|apply Jg|apply Jb));exact qg.out)) (by decide) hg);have qo:=Ja (blk_grown (g:=qk) (o:=.cells #[.int .i64 a0_0,.int .i64 a0_1,.slice A0_2 l0_2.length c0_2] 27 (0,0)) (by(with_reducible repeat(first|refine Ji ?_ _|refine Jc ?_|refine Jh ?_ _));exact qb.out) hg (Kd.R_ne qg.out qb.out (by decide)));have qp:=Ja (blk_grown (g:=qi) (o:=.cells #[.int .i64 a1_0,.int .i64 a1_1,.slice A1_2 l1_2.length c1_2] 27 (0,0)) (by(with_reducible repeat(first|refine Ji ?_ _|refine Jc ?_|refine Jh ?_ _));exact qa.out) hg (Kd.R_ne qg.out qa.out (by decide)));have qq:=Ja (Kd.R_after (ok:=(fun _=>True)) (by(with_reducible repeat(first|apply Jf|apply Jg|apply Jb));exact zx.out) hg hat);have qs:=Ja (hb);have zq:=Ja (ho);clear qc;clear qb;clear qa;clear zx;clear HB;clear qg;have qc:=qn;have qb:=qo;have qa:=qp;have zx:=qq;have HB:=qs;have HO272:=zq;clear qn qo qp qq qs zq;clear ho hb hg hat))
                       go_roundg k5
                       case measure=>have:=HJ3.out;have:=HK2.out;have:=HK3.out;have:=HK4.out;have:=HK5.out;omega
                       case rel=>exact⟨(y270),(wrap64 (qd+1)),(by first|rfl|(simp;done)|(simp [*];done)),H',⟨by have:=HJ3.out;have:=HK2.out;have:=HK3.out;have:=HK4.out;have:=HK5.out;omega⟩,⟨by(with_reducible repeat(first|apply Jf|apply Jg|apply Jb));exact Kd.R_mono HO272.out (fun _ hk=>trivial)⟩,⟨by(with_reducible repeat(first|apply Jf|apply Jg|apply Jb));exact qc.out⟩,⟨by(with_reducible repeat(first|refine Ji ?_ _|refine Jc ?_|refine Jh ?_ _));exact qb.out⟩,⟨by(with_reducible repeat(first|refine Ji ?_ _|refine Jc ?_|refine Jh ?_ _));exact qa.out⟩,⟨by repeat(first|(with_reducible first|exact HB.out|apply Jk|apply Je|apply Jj|refine Jd ?_ qh.out|refine Jd ?_ qj.out)|exact HB.out)⟩⟩
                      ·rw [if_neg c82] at H
                       exact absurd H (by simp)
                   ·rw [if_neg c66] at H
                    exact absurd H (by simp)
                  ·rw [if_neg c65] at H
                   exact absurd H (by simp)
                 ·rw [if_neg c64] at H
                  have c64b0:decide (qd < qr)=false:=decide_eq_false c64
                  clear c64
                  have H':=Ja H
                  clear H
                  go_wp2
                  go_roundg k5
                  case measure=>have:=HJ3.out;have:=HK2.out;have:=HK3.out;have:=HK4.out;have:=HK5.out;omega
                  case rel=>exact⟨(qy),(wrap64 (qm+1)),(by first|rfl|(simp;done)|(simp [*];done)),H',⟨by have:=HJ3.out;have:=HK2.out;have:=HK3.out;have:=HK4.out;have:=HK5.out;omega⟩,⟨by(with_reducible repeat(first|apply Jf|apply Jg|apply Jb));exact qg.out⟩,⟨by(with_reducible repeat(first|refine Ji ?_ _|refine Jc ?_|refine Jh ?_ _));exact qb.out⟩,⟨by(with_reducible repeat(first|refine Ji ?_ _|refine Jc ?_|refine Jh ?_ _));exact qa.out⟩,⟨by repeat(first|(with_reducible first|exact HB.out|apply Jk|apply Je|apply Jj|refine Jd ?_ qh.out|refine Jd ?_ qj.out)|exact HB.out)⟩⟩
              ·rw [if_neg c62] at H
               exact absurd H (by simp)
       ·rw [if_neg c24] at H
        exact absurd H (by simp)
      ·rw [if_neg c22] at H
       have c22b0:decide (qm < t227)=false:=decide_eq_false c22
       clear c22
       simp only [Option.some.injEq,Prod.mk.injEq] at H
       obtain⟨rfl,rfl⟩:=H
       have hnb88:=yd.out
       have hnc88:=yc.out
       have hcz89_0:wr.cell? ⟨qi,0,none⟩=some (.int .i64 a1_0):=(Jn qa.out 0).trans rfl
       have hcz89_1:wr.cell? ⟨qi,1,none⟩=some (.int .i64 a1_1):=(Jn qa.out 1).trans rfl
       have hcz89_2:wr.cell? ⟨qi,2,none⟩=some (.slice A1_2 l1_2.length c1_2):=(Jn qa.out 2).trans rfl
       have hfz89_0:=Jl qa.out 0
       have hfz89_1:=Jl qa.out 1
       have hfz89_2:=Jl qa.out 2
       go_wp2_with (first|((with_reducible refine gate_callee (f:=67) rfl ?_);refine goesL_ (some 32) rfl rfl Try.func67 (by kernel_rfl) rfl #[.agg #[.int .i64 a1_0,.int .i64 a1_1,.slice A1_2 l1_2.length c1_2]] rfl (by(try simp only [List.map_toArray,List.map_cons,List.map_nil]);first|done|rfl|(simp only [List.length_drop,List.length_take];rfl)) ?_;(with_reducible refine(spec_l14Blocks.calls a1_0 a1_1 _ _ l1_2 t227 _ ?side1 ?side2 A21.out).mono ?_);(case side1=>repeat(first|exact(Kd.C_below zy.out HB.out)|(with_reducible refine Kd.C_alloc ?_ _)|(with_reducible refine Kd.C_drewN ?_ _)|(with_reducible refine Kd.C_drew ?_)));(case side2=>exact zv.out);rintro e w90 ⟨rfl,hb⟩;refine⟨_,rfl,?_⟩;have qn:=Ja (Kd.R_below (by(with_reducible repeat(first|apply Jf|apply Jg|apply Jb));exact qg.out) hb);have qo:=Ja (Jo (g:=qk) (o:=.cells #[.int .i64 a0_0,.int .i64 a0_1,.slice A0_2 l0_2.length c0_2] 27 (0,0)) (by(with_reducible repeat(first|refine Ji ?_ _|refine Jc ?_|refine Jh ?_ _));exact qb.out) hb);have qp:=Ja (Jo (g:=qi) (o:=.cells #[.int .i64 a1_0,.int .i64 a1_1,.slice A1_2 l1_2.length c1_2] 27 (0,0)) (by(with_reducible repeat(first|refine Ji ?_ _|refine Jc ?_|refine Jh ?_ _));exact qa.out) hb);have qq:=Ja (below_step (by repeat(first|(with_reducible first|exact HB.out|apply Jk|apply Je|apply Jj|refine Jd ?_ qh.out|refine Jd ?_ qj.out)|exact HB.out)) hb);clear qg;clear qb;clear qa;clear HB;have qg:=qn;have qb:=qo;have qa:=qp;have HB:=qq;clear qn qo qp qq;(try clear hb);(try clear hb2);(try clear hk);(try clear hi)))
       go_ret2
       exact⟨_,by first|rfl|(simp [errW_none,errW_some] <;> rfl)|(simp [*,errW_none,errW_some] <;> rfl),by(with_reducible repeat(first|apply Jf|apply Jg|apply Jb));exact qg.out,by repeat(first|(with_reducible first|exact HB.out|apply Jk|apply Je|apply Jj|refine Jd ?_ qh.out|refine Jd ?_ qj.out)|exact HB.out)⟩

end Go.Proofs.Ytbdnpfjjaokdbaa.HFnDecoded
