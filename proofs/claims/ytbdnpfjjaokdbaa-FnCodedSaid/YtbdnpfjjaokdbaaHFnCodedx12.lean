-- Laid by myprint.py, a program of this repo, out of the kit's printer and this repo's own texts (wip/hand).
import Derived.Test.YtbdnpfjjaokdbaaHFnCodedx0
import Derived.Test.YtbdnpfjjaokdbaaHFnCodedx1
import Derived.Test.YtbdnpfjjaokdbaaHFnCodedx2
import Derived.Test.YtbdnpfjjaokdbaaHFnCodedx10
import Derived.Test.YtbdnpfjjaokdbaaHFnCodedx11
namespace Go.Proofs.Ytbdnpfjjaokdbaa.HFnCoded
open Go.RowKit Go.Proofs.YtbdnpfjjaokdbaaW.PrintWords Go.Proofs.YtbdnpfjjaokdbaaW.PrintLast Go.Proofs.YtbdnpfjjaokdbaaW.PrintMore
attribute [local go_sem] max2_int min2_int max_two min_two max_three min_three max_four min_four   -- for this text's walks alone
set_option linter.unusedVariables false
set_option linter.unusedSimpArgs false
theorem Ma : type_of% @Aside0.mk := @Aside0.mk
theorem Mb : type_of% @blk_drew := @blk_drew
theorem Mc : type_of% @Kd.R_drew := @Kd.R_drew
theorem Md : type_of% @below_set := @below_set
theorem Me : type_of% @pw_below_drewN := @pw_below_drewN
theorem Mf : type_of% @blk_alloc := @blk_alloc
theorem Mg : type_of% @blk_drewN := @blk_drewN
theorem Mh : type_of% @below_drew1 := @below_drew1
theorem Mi : type_of% @Kd.R_alloc := @Kd.R_alloc
theorem Mj : type_of% @Kd.R_drewN := @Kd.R_drewN
theorem Mk : type_of% @below_alloc := @below_alloc
theorem Ml : type_of% @blk_cell := @blk_cell
theorem Mm : type_of% @blk_frozen := @blk_frozen
theorem Mn : type_of% @blk_below := @blk_below
theorem Mo : type_of% @Kd.R_reads' := @Kd.R_reads'

/-! ### impl_Encode: function 42 -/
mutual
def impl_Encode.j0 : Nat → Int → Bool → Int → Int → List Int → Int → Int → List Int → Option (List Int × Bool)
 | 0, _, _, _, _, _, _, _, _ => none
 | k + 1, x2, x28, x316000, x316001, x316002, x317000, x317001, x317002 => if x28 = true then (some (([] : List Int), false)) else ((impl_Picture_blocks.f x317000 x317001 x317002).bind fun qt => (impl_Encode.l0 k x2 (([] : List Int)) qt 0 x316000 x316001 x316002 x317000 x317001 x317002))
def impl_Encode.l0 : Nat → Int → List Int → Int → Int → Int → Int → List Int → Int → Int → List Int → Option (List Int × Bool)
 | 0, _, _, _, _, _, _, _, _, _, _ => none
 | k + 1, x2, x8, x31, x32, x316000, x316001, x316002, x317000, x317001, x317002 => if x32 < x31 then ((impl_motion.f k x316000 x316001 x316002 x317000 x317001 x317002 x32).bind fun bt323 => ((impl_Picture_at.f k x317000 x317001 x317002 x32 0 0).bind fun yd => ((impl_Picture_at.f k x316000 x316001 x316002 x32 bt323.1 bt323.2).bind fun ye => (impl_Encode.l1 k x2 x8 bt323.1 bt323.2 yd ye x31 x32 (yd.length : Int) 0 x316000 x316001 x316002 x317000 x317001 x317002)))) else (some (x8, true))
def impl_Encode.l1 : Nat → Int → List Int → Int → Int → List Int → List Int → Int → Int → Int → Int → Int → Int → List Int → Int → Int → List Int → Option (List Int × Bool)
 | 0, _, _, _, _, _, _, _, _, _, _, _, _, _, _, _, _ => none
 | k + 1, x2, x8, x10, x11, x12, x13, x31, x32, x51, x52, x316000, x316001, x316002, x317000, x317001, x317002 => if x52 < x51 then (if 0 ≤ x52 then (if x52 < (x12.length : Int) then (if x52 < (x13.length : Int) then (impl_Encode.l1 k x2 x8 x10 x11 (x12.set (x52 : Int).toNat (wrap64 ((rd x12 x52) - (rd x13 x52)))) x13 x31 x32 x51 (wrap64 (x52 + 1)) x316000 x316001 x316002 x317000 x317001 x317002) else (none)) else (none)) else (none)) else ((impl_turn.f x12).bind fun yj => (impl_Encode.l2 k x2 x8 x10 x11 yj 0 x31 x32 (yj.length : Int) 0 x316000 x316001 x316002 x317000 x317001 x317002))
def impl_Encode.l2 : Nat → Int → List Int → Int → Int → List Int → Int → Int → Int → Int → Int → Int → Int → List Int → Int → Int → List Int → Option (List Int × Bool)
 | 0, _, _, _, _, _, _, _, _, _, _, _, _, _, _, _, _ => none
 | k + 1, x2, x8, x10, x11, x15, x16, x31, x32, x69, x70, x316000, x316001, x316002, x317000, x317001, x317002 => if x70 < x69 then (if 0 ≤ x70 then (if x70 < (x15.length : Int) then ((impl_near.f (rd x15 x70) (wrap64 (16 * x2))).bind fun zv => ((some (x15.set (x70 : Int).toNat zv : List Int)).bind fun qz => (if (rd qz x70) = 0 then (impl_Encode.l2 k x2 x8 x10 x11 qz x16 x31 x32 x69 (wrap64 (x70 + 1)) x316000 x316001 x316002 x317000 x317001 x317002) else (impl_Encode.l2 k x2 x8 x10 x11 qz (wrap64 (x70 + 1)) x31 x32 x69 (wrap64 (x70 + 1)) x316000 x316001 x316002 x317000 x317001 x317002)))) else (none)) else (none)) else ((some (([(wrap64 ((wrap64 ((wrap64 (8 * (wrap64 (x11 + 2)))) + x10)) + 2)) % 256, (x16) % 256] : List Int) : List Int)).bind fun y341 => (if x8.length + y341.length < 140737488355328 then (if 0 ≤ x16 then (if x16 ≤ (x15.length : Int) then ((some (x15.take (x16 : Int).toNat : List Int)).bind fun qv => (impl_Encode.l3 k x2 (x8 ++ y341) x31 x32 qv (qv.length : Int) 0 x316000 x316001 x316002 x317000 x317001 x317002)) else (none)) else (none)) else (none)))
def impl_Encode.l3 : Nat → Int → List Int → Int → Int → List Int → Int → Int → Int → Int → List Int → Int → Int → List Int → Option (List Int × Bool)
 | 0, _, _, _, _, _, _, _, _, _, _, _, _, _ => none
 | k + 1, x2, x8, x31, x32, x105, x106, x107, x316000, x316001, x316002, x317000, x317001, x317002 => if x107 < x106 then (if 0 ≤ x107 then (if x107 < (x105.length : Int) then ((impl_levelBytes.f (rd x105 x107)).bind fun zw => (if x8.length + zw.length < 140737488355328 then (impl_Encode.l3 k x2 (x8 ++ zw) x31 x32 x105 x106 (wrap64 (x107 + 1)) x316000 x316001 x316002 x317000 x317001 x317002) else (none))) else (none)) else (none)) else (impl_Encode.l0 k x2 x8 x31 (wrap64 (x32 + 1)) x316000 x316001 x316002 x317000 x317001 x317002)
end
def impl_Encode.f (k : Nat) (a0_0 : Int) (a0_1 : Int) (l0_2 : List Int) (a1_0 : Int) (a1_1 : Int) (l1_2 : List Int) (a2 : Int) : Option (List Int × Bool) := (impl_bothOk.f a0_0 a0_1 l0_2 a1_0 a1_1 l1_2).bind fun t317 => (if t317 = true then ((impl_in.f a2 1 64).bind fun zt => (impl_Encode.j0 k a2 (!zt) a0_0 a0_1 l0_2 a1_0 a1_1 l1_2)) else (impl_Encode.j0 k a2 true a0_0 a0_1 l0_2 a1_0 a1_1 l1_2))
theorem impl_Encode.mono_l : ∀ k, (∀ y0 y1 y2 y3 y4 y5 y6 y7, LeO (impl_Encode.j0 k y0 y1 y2 y3 y4 y5 y6 y7) (impl_Encode.j0 (k + 1) y0 y1 y2 y3 y4 y5 y6 y7)) ∧ (∀ y0 y1 y2 y3 y4 y5 y6 y7 y8 y9, LeO (impl_Encode.l0 k y0 y1 y2 y3 y4 y5 y6 y7 y8 y9) (impl_Encode.l0 (k + 1) y0 y1 y2 y3 y4 y5 y6 y7 y8 y9)) ∧ (∀ y0 y1 y2 y3 y4 y5 y6 y7 y8 y9 y10 y11 y12 y13 y14 y15, LeO (impl_Encode.l1 k y0 y1 y2 y3 y4 y5 y6 y7 y8 y9 y10 y11 y12 y13 y14 y15) (impl_Encode.l1 (k + 1) y0 y1 y2 y3 y4 y5 y6 y7 y8 y9 y10 y11 y12 y13 y14 y15)) ∧ (∀ y0 y1 y2 y3 y4 y5 y6 y7 y8 y9 y10 y11 y12 y13 y14 y15, LeO (impl_Encode.l2 k y0 y1 y2 y3 y4 y5 y6 y7 y8 y9 y10 y11 y12 y13 y14 y15) (impl_Encode.l2 (k + 1) y0 y1 y2 y3 y4 y5 y6 y7 y8 y9 y10 y11 y12 y13 y14 y15)) ∧ (∀ y0 y1 y2 y3 y4 y5 y6 y7 y8 y9 y10 y11 y12, LeO (impl_Encode.l3 k y0 y1 y2 y3 y4 y5 y6 y7 y8 y9 y10 y11 y12) (impl_Encode.l3 (k + 1) y0 y1 y2 y3 y4 y5 y6 y7 y8 y9 y10 y11 y12))
 | 0 => ⟨fun _ _ _ _ _ _ _ _ r h => by simp [impl_Encode.j0] at h, fun _ _ _ _ _ _ _ _ _ _ r h => by simp [impl_Encode.l0] at h, fun _ _ _ _ _ _ _ _ _ _ _ _ _ _ _ _ r h => by simp [impl_Encode.l1] at h, fun _ _ _ _ _ _ _ _ _ _ _ _ _ _ _ _ r h => by simp [impl_Encode.l2] at h, fun _ _ _ _ _ _ _ _ _ _ _ _ _ r h => by simp [impl_Encode.l3] at h⟩
 | k + 1 => by
  obtain⟨ih0,ih1,ih2,ih3,ih4⟩:=impl_Encode.mono_l k
  refine⟨?_,?_,?_,?_,?_⟩
  ·intro y0 y1 y2 y3 y4 y5 y6 y7
   unfold impl_Encode.j0
   repeat' first
   | (with_reducible exact ih0 _ _ _ _ _ _ _ _)
   | (with_reducible exact ih1 _ _ _ _ _ _ _ _ _ _)
   | (with_reducible exact ih2 _ _ _ _ _ _ _ _ _ _ _ _ _ _ _ _)
   | (with_reducible exact ih3 _ _ _ _ _ _ _ _ _ _ _ _ _ _ _ _)
   | (with_reducible exact ih4 _ _ _ _ _ _ _ _ _ _ _ _ _)
   | (with_reducible exact impl_Picture_at.mono _ _ _ _ _ _ _)
   | (with_reducible exact impl_motion.mono _ _ _ _ _ _ _ _)
   | (with_reducible exact LeO.refl _)
   | (with_reducible exact LeO.none _)
   | (with_reducible refine LeO.ite ?_ ?_)
   | (with_reducible refine LeO.bind ?_ (fun _ => ?_))
   | exact ih0 _ _ _ _ _ _ _ _
   | exact ih1 _ _ _ _ _ _ _ _ _ _
   | exact ih2 _ _ _ _ _ _ _ _ _ _ _ _ _ _ _ _
   | exact ih3 _ _ _ _ _ _ _ _ _ _ _ _ _ _ _ _
   | exact ih4 _ _ _ _ _ _ _ _ _ _ _ _ _
   | exact impl_Picture_at.mono _ _ _ _ _ _ _
   | exact impl_motion.mono _ _ _ _ _ _ _ _
   | exact LeO.none _
   | refine LeO.ite ?_ ?_
   | refine LeO.bind ?_ (fun _ => ?_)
  ·intro y0 y1 y2 y3 y4 y5 y6 y7 y8 y9
   unfold impl_Encode.l0
   repeat' first
   | (with_reducible exact ih0 _ _ _ _ _ _ _ _)
   | (with_reducible exact ih1 _ _ _ _ _ _ _ _ _ _)
   | (with_reducible exact ih2 _ _ _ _ _ _ _ _ _ _ _ _ _ _ _ _)
   | (with_reducible exact ih3 _ _ _ _ _ _ _ _ _ _ _ _ _ _ _ _)
   | (with_reducible exact ih4 _ _ _ _ _ _ _ _ _ _ _ _ _)
   | (with_reducible exact impl_Picture_at.mono _ _ _ _ _ _ _)
   | (with_reducible exact impl_motion.mono _ _ _ _ _ _ _ _)
   | (with_reducible exact LeO.refl _)
   | (with_reducible exact LeO.none _)
   | (with_reducible refine LeO.ite ?_ ?_)
   | (with_reducible refine LeO.bind ?_ (fun _ => ?_))
   | exact ih0 _ _ _ _ _ _ _ _
   | exact ih1 _ _ _ _ _ _ _ _ _ _
   | exact ih2 _ _ _ _ _ _ _ _ _ _ _ _ _ _ _ _
   | exact ih3 _ _ _ _ _ _ _ _ _ _ _ _ _ _ _ _
   | exact ih4 _ _ _ _ _ _ _ _ _ _ _ _ _
   | exact impl_Picture_at.mono _ _ _ _ _ _ _
   | exact impl_motion.mono _ _ _ _ _ _ _ _
   | exact LeO.none _
   | refine LeO.ite ?_ ?_
   | refine LeO.bind ?_ (fun _ => ?_)
  ·intro y0 y1 y2 y3 y4 y5 y6 y7 y8 y9 y10 y11 y12 y13 y14 y15
   unfold impl_Encode.l1
   repeat' first
   | (with_reducible exact ih0 _ _ _ _ _ _ _ _)
   | (with_reducible exact ih1 _ _ _ _ _ _ _ _ _ _)
   | (with_reducible exact ih2 _ _ _ _ _ _ _ _ _ _ _ _ _ _ _ _)
   | (with_reducible exact ih3 _ _ _ _ _ _ _ _ _ _ _ _ _ _ _ _)
   | (with_reducible exact ih4 _ _ _ _ _ _ _ _ _ _ _ _ _)
   | (with_reducible exact impl_Picture_at.mono _ _ _ _ _ _ _)
   | (with_reducible exact impl_motion.mono _ _ _ _ _ _ _ _)
   | (with_reducible exact LeO.refl _)
   | (with_reducible exact LeO.none _)
   | (with_reducible refine LeO.ite ?_ ?_)
   | (with_reducible refine LeO.bind ?_ (fun _ => ?_))
   | exact ih0 _ _ _ _ _ _ _ _
   | exact ih1 _ _ _ _ _ _ _ _ _ _
   | exact ih2 _ _ _ _ _ _ _ _ _ _ _ _ _ _ _ _
   | exact ih3 _ _ _ _ _ _ _ _ _ _ _ _ _ _ _ _
   | exact ih4 _ _ _ _ _ _ _ _ _ _ _ _ _
   | exact impl_Picture_at.mono _ _ _ _ _ _ _
   | exact impl_motion.mono _ _ _ _ _ _ _ _
   | exact LeO.none _
   | refine LeO.ite ?_ ?_
   | refine LeO.bind ?_ (fun _ => ?_)
  ·intro y0 y1 y2 y3 y4 y5 y6 y7 y8 y9 y10 y11 y12 y13 y14 y15
   unfold impl_Encode.l2
   repeat' first
   | (with_reducible exact ih0 _ _ _ _ _ _ _ _)
   | (with_reducible exact ih1 _ _ _ _ _ _ _ _ _ _)
   | (with_reducible exact ih2 _ _ _ _ _ _ _ _ _ _ _ _ _ _ _ _)
   | (with_reducible exact ih3 _ _ _ _ _ _ _ _ _ _ _ _ _ _ _ _)
   | (with_reducible exact ih4 _ _ _ _ _ _ _ _ _ _ _ _ _)
   | (with_reducible exact impl_Picture_at.mono _ _ _ _ _ _ _)
   | (with_reducible exact impl_motion.mono _ _ _ _ _ _ _ _)
   | (with_reducible exact LeO.refl _)
   | (with_reducible exact LeO.none _)
   | (with_reducible refine LeO.ite ?_ ?_)
   | (with_reducible refine LeO.bind ?_ (fun _ => ?_))
   | exact ih0 _ _ _ _ _ _ _ _
   | exact ih1 _ _ _ _ _ _ _ _ _ _
   | exact ih2 _ _ _ _ _ _ _ _ _ _ _ _ _ _ _ _
   | exact ih3 _ _ _ _ _ _ _ _ _ _ _ _ _ _ _ _
   | exact ih4 _ _ _ _ _ _ _ _ _ _ _ _ _
   | exact impl_Picture_at.mono _ _ _ _ _ _ _
   | exact impl_motion.mono _ _ _ _ _ _ _ _
   | exact LeO.none _
   | refine LeO.ite ?_ ?_
   | refine LeO.bind ?_ (fun _ => ?_)
  ·intro y0 y1 y2 y3 y4 y5 y6 y7 y8 y9 y10 y11 y12
   unfold impl_Encode.l3
   repeat' first
   | (with_reducible exact ih0 _ _ _ _ _ _ _ _)
   | (with_reducible exact ih1 _ _ _ _ _ _ _ _ _ _)
   | (with_reducible exact ih2 _ _ _ _ _ _ _ _ _ _ _ _ _ _ _ _)
   | (with_reducible exact ih3 _ _ _ _ _ _ _ _ _ _ _ _ _ _ _ _)
   | (with_reducible exact ih4 _ _ _ _ _ _ _ _ _ _ _ _ _)
   | (with_reducible exact impl_Picture_at.mono _ _ _ _ _ _ _)
   | (with_reducible exact impl_motion.mono _ _ _ _ _ _ _ _)
   | (with_reducible exact LeO.refl _)
   | (with_reducible exact LeO.none _)
   | (with_reducible refine LeO.ite ?_ ?_)
   | (with_reducible refine LeO.bind ?_ (fun _ => ?_))
   | exact ih0 _ _ _ _ _ _ _ _
   | exact ih1 _ _ _ _ _ _ _ _ _ _
   | exact ih2 _ _ _ _ _ _ _ _ _ _ _ _ _ _ _ _
   | exact ih3 _ _ _ _ _ _ _ _ _ _ _ _ _ _ _ _
   | exact ih4 _ _ _ _ _ _ _ _ _ _ _ _ _
   | exact impl_Picture_at.mono _ _ _ _ _ _ _
   | exact impl_motion.mono _ _ _ _ _ _ _ _
   | exact LeO.none _
   | refine LeO.ite ?_ ?_
   | refine LeO.bind ?_ (fun _ => ?_)
theorem impl_Encode.mono : ∀ a0 a1 a2 a3 a4 a5 a6 k, LeO (impl_Encode.f k a0 a1 a2 a3 a4 a5 a6) (impl_Encode.f (k + 1) a0 a1 a2 a3 a4 a5 a6) := by
 intro a0 a1 a2 a3 a4 a5 a6 k
 obtain⟨ih0,ih1,ih2,ih3,ih4⟩:=impl_Encode.mono_l k
 unfold impl_Encode.f
 repeat' first
   | (with_reducible exact ih0 _ _ _ _ _ _ _ _)
   | (with_reducible exact ih1 _ _ _ _ _ _ _ _ _ _)
   | (with_reducible exact ih2 _ _ _ _ _ _ _ _ _ _ _ _ _ _ _ _)
   | (with_reducible exact ih3 _ _ _ _ _ _ _ _ _ _ _ _ _ _ _ _)
   | (with_reducible exact ih4 _ _ _ _ _ _ _ _ _ _ _ _ _)
   | (with_reducible exact impl_Picture_at.mono _ _ _ _ _ _ _)
   | (with_reducible exact impl_motion.mono _ _ _ _ _ _ _ _)
   | (with_reducible exact LeO.refl _)
   | (with_reducible exact LeO.none _)
   | (with_reducible refine LeO.ite ?_ ?_)
   | (with_reducible refine LeO.bind ?_ (fun _ => ?_))
   | exact ih0 _ _ _ _ _ _ _ _
   | exact ih1 _ _ _ _ _ _ _ _ _ _
   | exact ih2 _ _ _ _ _ _ _ _ _ _ _ _ _ _ _ _
   | exact ih3 _ _ _ _ _ _ _ _ _ _ _ _ _ _ _ _
   | exact ih4 _ _ _ _ _ _ _ _ _ _ _ _ _
   | exact impl_Picture_at.mono _ _ _ _ _ _ _
   | exact impl_motion.mono _ _ _ _ _ _ _ _
   | exact LeO.none _
   | refine LeO.ite ?_ ?_
   | refine LeO.bind ?_ (fun _ => ?_)
def impl_Encode.T8 : Bool × List (List Nat × List Nat) := (true, [([], []), ([], []), ([0, 1], [0, 1]), ([], []), ([], []), ([], []), ([], []), ([3, 4, 5, 6, 2], [3, 4, 5, 6]), ([2, 7, 0, 1, 2], [2]), ([7, 8, 0, 1, 2, 3, 4, 5, 6, 7, 8], [7])])
def impl_Encode.B8 : List Nat := [0, 0, 3, 0, 0, 0, 0, 127, 255, 511]
theorem impl_Encode.tab8 : rtab .any (opsOf Try.f42 8) = impl_Encode.T8 := by kernel_rfl
theorem impl_Encode.bits8 : waitsOk impl_Encode.T8.2 impl_Encode.B8 = true := by kernel_rfl
def impl_Encode.T12 : Bool × List (List Nat × List Nat) := (true, [([], []), ([], []), ([0, 1], [0, 1]), ([2], [2]), ([], []), ([], []), ([4, 5], [4, 5]), ([6], [6]), ([3, 7], [3, 7]), ([0, 1, 0, 1, 2, 3, 4, 5, 6, 7, 8], [0, 1]), ([9, 8, 0, 1, 2, 3, 4, 5, 6, 7, 8], [8, 9])])
def impl_Encode.B12 : List Nat := [0, 0, 3, 7, 0, 0, 48, 112, 255, 511, 1023]
theorem impl_Encode.tab12 : rtab .any (opsOf Try.f42 12) = impl_Encode.T12 := by kernel_rfl
theorem impl_Encode.bits12 : waitsOk impl_Encode.T12.2 impl_Encode.B12 = true := by kernel_rfl
set_option maxHeartbeats 8000000 in
set_option maxRecDepth 100000 in
theorem impl_Encode.calls (k : Nat) (a0_0 : Int) (a0_1 : Int) (A0_2 : Option Addr) (c0_2 : Nat) (l0_2 : List Int) (a1_0 : Int) (a1_1 : Int) (A1_2 : Option Addr) (c1_2 : Nat) (l1_2 : List Int) (a2 : Int) (r1 : List Int) (r2 : Bool) (w : World) (hr0_2 : Kd.C (Kd.int .i64) w A0_2 l0_2.length l0_2) (hc0_2 : l0_2.length ≤ c0_2) (hr1_2 : Kd.C (Kd.int .i64) w A1_2 l1_2.length l1_2) (hc1_2 : l1_2.length ≤ c1_2) (h : impl_Encode.f k a0_0 a0_1 l0_2 a1_0 a1_1 l1_2 a2 = some (r1, r2)) :
  Calls Try.prog 42 #[.agg #[.int .i64 a0_0,.int .i64 a0_1,.slice A0_2 l0_2.length c0_2],.agg #[.int .i64 a1_0,.int .i64 a1_1,.slice A1_2 l1_2.length c1_2],.int .i64 a2] w fun e w'=>∃ v0_:Value,e=.returned (.tuple #[v0_,.bool r2])∧Kd.R (Kd.int .u8) 5 w' w.heap.size (fun _=>True) v0_ r1∧Below w.heap.size w w':=by
 have hu27:=Try.underlying27
 have HR0_2:=Ma hr0_2
 have HC0_2:=Ma hc0_2
 clear hr0_2 hc0_2
 have HR1_2:=Ma hr1_2
 have HC1_2:=Ma hc1_2
 clear hr1_2 hc1_2
 have HB:=Ma (Below.refl w.heap.size w)
 have H:((impl_bothOk.f a0_0 a0_1 l0_2 a1_0 a1_1 l1_2).bind fun t317=>(if t317=true then ((impl_in.f a2 1 64).bind fun zt=>(impl_Encode.j0 k a2 (!zt) a0_0 a0_1 l0_2 a1_0 a1_1 l1_2)) else (impl_Encode.j0 k a2 true a0_0 a0_1 l0_2 a1_0 a1_1 l1_2)))=some (r1,r2):=h
 clear h
 have HC4:=Ma H
 clear H
 go_enter Try.func42,Try.ntmps42
 go_upto_region 1 with (first|((with_reducible refine gate_dst (N:=3) rfl ?_);refine box_event ?hg (N:=3) ?hd (cs:=#[.int .i64 a0_0,.int .i64 a0_1,.slice A0_2 l0_2.length c0_2]) (t:=27) ?hr ?_;(case hd=>rfl);(case hg=>rfl);(case hr=>first|(go_simp;done)|(go_simp;rfl));intro qg hg w5 hbox hb;have qq:=Ma (below_step (by repeat(first|(with_reducible first|exact HB.out|apply Mk|apply Me|apply Mh)|exact HB.out)) hb);have qr:=Ma (hbox);have qs:=Ma ((by rw [hg];exact(below_size (by repeat(first|(with_reducible first|exact HB.out|apply Mk|apply Me|apply Mh)|exact HB.out))):w.heap.size≤qg));have qw:=Ma ((by rw [hg];exact(below_size (by repeat(first|(with_reducible first|exact HB.out|apply Mk|apply Me|apply Mh)|exact HB.out))):w.heap.size≤qg));clear HB;have HB:=qq;have qb:=qr;have GW315:=qs;have qk:=qw;clear qq qr qs qw;clear hb hbox hg)|((with_reducible refine gate_dst (N:=4) rfl ?_);refine box_event ?hg (N:=4) ?hd (cs:=#[.int .i64 a1_0,.int .i64 a1_1,.slice A1_2 l1_2.length c1_2]) (t:=27) ?hr ?_;(case hd=>rfl);(case hg=>rfl);(case hr=>first|(go_simp;done)|(go_simp;rfl));intro qh hg w6 hbox hb;have qq:=Ma (Mn (g:=qg) (o:=.cells #[.int .i64 a0_0,.int .i64 a0_1,.slice A0_2 l0_2.length c0_2] 27 (0,0)) (by(with_reducible repeat(first|refine Mg ?_ _|refine Mb ?_|refine Mf ?_ _));exact qb.out) hb);have qr:=Ma (below_step (by repeat(first|(with_reducible first|exact HB.out|apply Mk|apply Me|apply Mh|refine Md ?_ qk.out)|exact HB.out)) hb);have qs:=Ma (hbox);have qw:=Ma ((by rw [hg];exact(below_size (by repeat(first|(with_reducible first|exact HB.out|apply Mk|apply Me|apply Mh|refine Md ?_ qk.out)|exact HB.out))):w.heap.size≤qh));have yg:=Ma ((by rw [hg];exact(below_size (by repeat(first|(with_reducible first|exact HB.out|apply Mk|apply Me|apply Mh|refine Md ?_ qk.out)|exact HB.out))):w.heap.size≤qh));have n5_:=Ma ((by rw [hg];exact Nat.ne_of_lt (blk_lt (g:=qg) (o:=.cells #[.int .i64 a0_0,.int .i64 a0_1,.slice A0_2 l0_2.length c0_2] 27 (0,0)) (by(with_reducible repeat(first|refine Mg ?_ _|refine Mb ?_|refine Mf ?_ _));exact qb.out)):qg≠qh));have n6_:=Ma ((by rw [hg];exact Nat.ne_of_gt (blk_lt (g:=qg) (o:=.cells #[.int .i64 a0_0,.int .i64 a0_1,.slice A0_2 l0_2.length c0_2] 27 (0,0)) (by(with_reducible repeat(first|refine Mg ?_ _|refine Mb ?_|refine Mf ?_ _));exact qb.out)):qh≠qg));clear qb;clear HB;have qb:=qq;have HB:=qr;have qa:=qs;have GW316:=qw;have ql:=yg;have yh:=n5_;have yi:=n6_;clear qq qr qs qw yg n5_ n6_;clear hb hbox hg))
 (try simp only [Act.put,List.setIfInBounds_toArray,List.set_cons_zero,List.set_cons_succ])
 go_cut [28] (fun v28 wc=>∃ (kq:Nat) (x28_3:Bool),v28=.bool x28_3∧Aside0 (impl_Encode.j0 kq a2 x28_3 a0_0 a0_1 l0_2 a1_0 a1_1 l1_2=some (r1,r2))∧Aside0 (kq≤k)∧Aside0 (wc.heap[qg]? = some (.cells #[.int .i64 a0_0,.int .i64 a0_1,(.slice A0_2 l0_2.length c0_2)] 27 (0,0)))∧Aside0 (wc.heap[qh]? = some (.cells #[.int .i64 a1_0,.int .i64 a1_1,(.slice A1_2 l1_2.length c1_2)] 27 (0,0)))∧Aside0 (Below w.heap.size w wc))
 case first=>
  have H:=HC4.out
  clear HC4
  replace H:=Option.bind_eq_some_iff.mp H
  obtain⟨t317,A70,H⟩:=H
  replace H:(if t317=true then ((impl_in.f a2 1 64).bind fun zt=>(impl_Encode.j0 k a2 (!zt) a0_0 a0_1 l0_2 a1_0 a1_1 l1_2)) else (impl_Encode.j0 k a2 true a0_0 a0_1 l0_2 a1_0 a1_1 l1_2))=some (r1,r2):=H
  have A7:=Ma A70
  clear A70
  by_cases c8:t317=true
  ·subst c8
   have H1:((impl_in.f a2 1 64).bind fun zt=>(impl_Encode.j0 k a2 (!zt) a0_0 a0_1 l0_2 a1_0 a1_1 l1_2))=some (r1,r2):=by rw [if_pos rfl] at H;exact H
   clear H
   have H:=H1
   clear H1
   replace H:=Option.bind_eq_some_iff.mp H
   obtain⟨zt,A90,H⟩:=H
   replace H:(impl_Encode.j0 k a2 (!zt) a0_0 a0_1 l0_2 a1_0 a1_1 l1_2)=some (r1,r2):=H
   have A9:=Ma A90
   clear A90
   have H':=Ma H
   clear H
   have hnb10:=yh.out
   have hnc10:=yi.out
   have yk:w6.cell? ⟨qg,0,none⟩=some (.int .i64 a0_0):=(Ml qb.out 0).trans rfl
   have yl:w6.cell? ⟨qg,1,none⟩=some (.int .i64 a0_1):=(Ml qb.out 1).trans rfl
   have ym:w6.cell? ⟨qg,2,none⟩=some (.slice A0_2 l0_2.length c0_2):=(Ml qb.out 2).trans rfl
   have yw:=Mm qb.out 0
   have yx:=Mm qb.out 1
   have yy:=Mm qb.out 2
   have yn:w6.cell? ⟨qh,0,none⟩=some (.int .i64 a1_0):=(Ml qa.out 0).trans rfl
   have yo:w6.cell? ⟨qh,1,none⟩=some (.int .i64 a1_1):=(Ml qa.out 1).trans rfl
   have yp:w6.cell? ⟨qh,2,none⟩=some (.slice A1_2 l1_2.length c1_2):=(Ml qa.out 2).trans rfl
   have yz:=Mm qa.out 0
   have za:=Mm qa.out 1
   have zb:=Mm qa.out 2
   go_wp2_with (first|((with_reducible refine gate_callee (f:=69) rfl ?_);refine goesL_ (some 22) rfl rfl Try.func69 (by kernel_rfl) rfl #[.agg #[.int .i64 a0_0,.int .i64 a0_1,.slice A0_2 l0_2.length c0_2],.agg #[.int .i64 a1_0,.int .i64 a1_1,.slice A1_2 l1_2.length c1_2]] rfl (by(try simp only [List.map_toArray,List.map_cons,List.map_nil]);first|done|rfl|(simp only [List.length_drop,List.length_take];rfl)) ?_;(with_reducible refine(impl_bothOk.calls a0_0 a0_1 _ _ l0_2 a1_0 a1_1 _ _ l1_2 true _ ?side1 ?side2 ?side3 ?side4 A7.out).mono ?_);(case side1=>repeat(first|exact(Kd.C_below HR0_2.out HB.out)|(with_reducible refine Kd.C_alloc ?_ _)|(with_reducible refine Kd.C_drewN ?_ _)|(with_reducible refine Kd.C_drew ?_)));(case side2=>exact HC0_2.out);(case side3=>repeat(first|exact(Kd.C_below HR1_2.out HB.out)|(with_reducible refine Kd.C_alloc ?_ _)|(with_reducible refine Kd.C_drewN ?_ _)|(with_reducible refine Kd.C_drew ?_)));(case side4=>exact HC1_2.out);rintro e w13 ⟨rfl,hb⟩;refine⟨_,rfl,?_⟩;have qq:=Ma (Mn (g:=qg) (o:=.cells #[.int .i64 a0_0,.int .i64 a0_1,.slice A0_2 l0_2.length c0_2] 27 (0,0)) (by(with_reducible repeat(first|refine Mg ?_ _|refine Mb ?_|refine Mf ?_ _));exact qb.out) hb);have qr:=Ma (Mn (g:=qh) (o:=.cells #[.int .i64 a1_0,.int .i64 a1_1,.slice A1_2 l1_2.length c1_2] 27 (0,0)) (by(with_reducible repeat(first|refine Mg ?_ _|refine Mb ?_|refine Mf ?_ _));exact qa.out) hb);have qs:=Ma (below_step (by repeat(first|(with_reducible first|exact HB.out|apply Mk|apply Me|apply Mh|refine Md ?_ qk.out|refine Md ?_ ql.out)|exact HB.out)) hb);clear qb;clear qa;clear HB;have qb:=qq;have qa:=qr;have HB:=qs;clear qq qr qs;(try clear hb);(try clear hb2);(try clear hk);(try clear hi))|(go_at_call 49;(with_reducible refine(impl_in.calls a2 1 64 zt _ A9.out).mono ?_);rintro e w' ⟨rfl,⟨nd,rfl⟩⟩))
   go_meet
   case rel=>exact⟨_,(!zt),(by first|rfl|(simp;done)|(simp [*];done)),H',⟨by first|omega|exact Nat.le_refl _⟩,⟨by(with_reducible repeat(first|refine Mg ?_ _|refine Mb ?_|refine Mf ?_ _));exact qb.out⟩,⟨by(with_reducible repeat(first|refine Mg ?_ _|refine Mb ?_|refine Mf ?_ _));exact qa.out⟩,⟨by repeat(first|(with_reducible first|exact HB.out|apply Mk|apply Me|apply Mh|refine Md ?_ qk.out|refine Md ?_ ql.out)|exact HB.out)⟩⟩
  ·replace c8:=Bool.eq_false_iff.mpr c8
   subst c8
   have H1:(impl_Encode.j0 k a2 true a0_0 a0_1 l0_2 a1_0 a1_1 l1_2)=some (r1,r2):=by rw [if_neg (show ¬ (false=true) by decide)] at H;exact H
   clear H
   have H:=H1
   clear H1
   have H':=Ma H
   clear H
   have hnb14:=yh.out
   have hnc14:=yi.out
   have yq:w6.cell? ⟨qg,0,none⟩=some (.int .i64 a0_0):=(Ml qb.out 0).trans rfl
   have yr:w6.cell? ⟨qg,1,none⟩=some (.int .i64 a0_1):=(Ml qb.out 1).trans rfl
   have ys:w6.cell? ⟨qg,2,none⟩=some (.slice A0_2 l0_2.length c0_2):=(Ml qb.out 2).trans rfl
   have zc:=Mm qb.out 0
   have zd:=Mm qb.out 1
   have ze:=Mm qb.out 2
   have yt:w6.cell? ⟨qh,0,none⟩=some (.int .i64 a1_0):=(Ml qa.out 0).trans rfl
   have yu:w6.cell? ⟨qh,1,none⟩=some (.int .i64 a1_1):=(Ml qa.out 1).trans rfl
   have yv:w6.cell? ⟨qh,2,none⟩=some (.slice A1_2 l1_2.length c1_2):=(Ml qa.out 2).trans rfl
   have zf:=Mm qa.out 0
   have zg:=Mm qa.out 1
   have zh:=Mm qa.out 2
   go_wp2_with (first|((with_reducible refine gate_callee (f:=69) rfl ?_);refine goesL_ (some 22) rfl rfl Try.func69 (by kernel_rfl) rfl #[.agg #[.int .i64 a0_0,.int .i64 a0_1,.slice A0_2 l0_2.length c0_2],.agg #[.int .i64 a1_0,.int .i64 a1_1,.slice A1_2 l1_2.length c1_2]] rfl (by(try simp only [List.map_toArray,List.map_cons,List.map_nil]);first|done|rfl|(simp only [List.length_drop,List.length_take];rfl)) ?_;(with_reducible refine(impl_bothOk.calls a0_0 a0_1 _ _ l0_2 a1_0 a1_1 _ _ l1_2 false _ ?side1 ?side2 ?side3 ?side4 A7.out).mono ?_);(case side1=>repeat(first|exact(Kd.C_below HR0_2.out HB.out)|(with_reducible refine Kd.C_alloc ?_ _)|(with_reducible refine Kd.C_drewN ?_ _)|(with_reducible refine Kd.C_drew ?_)));(case side2=>exact HC0_2.out);(case side3=>repeat(first|exact(Kd.C_below HR1_2.out HB.out)|(with_reducible refine Kd.C_alloc ?_ _)|(with_reducible refine Kd.C_drewN ?_ _)|(with_reducible refine Kd.C_drew ?_)));(case side4=>exact HC1_2.out);rintro e w17 ⟨rfl,hb⟩;refine⟨_,rfl,?_⟩;have qq:=Ma (Mn (g:=qg) (o:=.cells #[.int .i64 a0_0,.int .i64 a0_1,.slice A0_2 l0_2.length c0_2] 27 (0,0)) (by(with_reducible repeat(first|refine Mg ?_ _|refine Mb ?_|refine Mf ?_ _));exact qb.out) hb);have qr:=Ma (Mn (g:=qh) (o:=.cells #[.int .i64 a1_0,.int .i64 a1_1,.slice A1_2 l1_2.length c1_2] 27 (0,0)) (by(with_reducible repeat(first|refine Mg ?_ _|refine Mb ?_|refine Mf ?_ _));exact qa.out) hb);have qs:=Ma (below_step (by repeat(first|(with_reducible first|exact HB.out|apply Mk|apply Me|apply Mh|refine Md ?_ qk.out|refine Md ?_ ql.out)|exact HB.out)) hb);clear qb;clear qa;clear HB;have qb:=qq;have qa:=qr;have HB:=qs;clear qq qr qs;(try clear hb);(try clear hb2);(try clear hk);(try clear hi)))
   go_meet
   case rel=>exact⟨_,(true),(by first|rfl|(simp;done)|(simp [*];done)),H',⟨by first|omega|exact Nat.le_refl _⟩,⟨by(with_reducible repeat(first|refine Mg ?_ _|refine Mb ?_|refine Mf ?_ _));exact qb.out⟩,⟨by(with_reducible repeat(first|refine Mg ?_ _|refine Mb ?_|refine Mf ?_ _));exact qa.out⟩,⟨by repeat(first|(with_reducible first|exact HB.out|apply Mk|apply Me|apply Mh|refine Md ?_ qk.out|refine Md ?_ ql.out)|exact HB.out)⟩⟩
 case rest=>
  clear HC4
  try clear c1
  try clear p2
  try clear c4
  try clear c6
  try clear c8
  try clear c10
  try clear c14
  try clear yk
  try clear yl
  try clear ym
  try clear yn
  try clear yo
  try clear yp
  try clear yq
  try clear yr
  try clear ys
  try clear yt
  try clear yu
  try clear yv
  try clear yw
  try clear yx
  try clear yy
  try clear yz
  try clear za
  try clear zb
  try clear zc
  try clear zd
  try clear ze
  try clear zf
  try clear zg
  try clear zh
  obtain⟨kq,x28_3,rfl,HA,HJ3,qb,qa,HB⟩:=hcut
  cases kq with
  | zero => exact absurd HA.out (by simp [impl_Encode.j0])
  | succ kj3 =>
   have H:=HA.out
   clear HA
   simp only [impl_Encode.j0] at H
   by_cases c18:x28_3=true
   ·subst c18
    have H1:(some (([]:List Int),false))=some (r1,r2):=by rw [if_pos rfl] at H;exact H
    clear H
    have H:=H1
    clear H1
    simp only [Option.some.injEq,Prod.mk.injEq] at H
    obtain⟨rfl,rfl⟩:=H
    go_wp2
    go_ret2
    exact⟨_,by first|rfl|(simp [errW_none,errW_some] <;> rfl)|(simp [*,errW_none,errW_some] <;> rfl),by first|exact Kd.R_nil _ _ _ _ _|exact Kd.N_nil _ _ _ _ _|exact Kd.V_nil _ _ _ _ _|exact Kd.Q_nil _ _ _ _ _|exact Kd.S_nil _ _ _ _ _,by repeat(first|(with_reducible first|exact HB.out|apply Mk|apply Me|apply Mh|refine Md ?_ qk.out|refine Md ?_ ql.out)|exact HB.out)⟩
   ·replace c18:=Bool.eq_false_iff.mpr c18
    subst c18
    have H1:((impl_Picture_blocks.f a1_0 a1_1 l1_2).bind fun qt=>(impl_Encode.l0 kj3 a2 (([]:List Int)) qt 0 a0_0 a0_1 l0_2 a1_0 a1_1 l1_2))=some (r1,r2):=by rw [if_neg (show ¬ (false=true) by decide)] at H;exact H
    clear H
    have H:=H1
    clear H1
    obtain⟨y319,hy319⟩:∃ y_:List Int,y_=(([]:List Int)):=⟨_,rfl⟩
    replace H:((impl_Picture_blocks.f a1_0 a1_1 l1_2).bind fun qt=>(impl_Encode.l0 kj3 a2 y319 qt 0 a0_0 a0_1 l0_2 a1_0 a1_1 l1_2))=some (r1,r2):=by first|(rw [hy319];with_reducible exact H)|(have zj:=(Option.bind_some _ _).symm.trans H;rw [hy319];with_reducible exact zj)|(have zj:=(Option.bind_some _ _).symm.trans H;with_reducible exact zj)|with_reducible exact H|(rw [hy319];exact H)|exact H
    have Ny319:=Ma hy319
    clear hy319
    replace H:=Option.bind_eq_some_iff.mp H
    obtain⟨qt,A190,H⟩:=H
    replace H:(impl_Encode.l0 kj3 a2 y319 qt 0 a0_0 a0_1 l0_2 a1_0 a1_1 l1_2)=some (r1,r2):=H
    have A19:=Ma A190
    clear A190
    have H':=Ma H
    clear H
    go_wp2_with (first|((with_reducible refine gate_dst (N:=29) rfl ?_);refine Kd.R_lit (Kd.int .u8) _ 5 ?hg (N:=29) ?hd (xs:=([]:List Int)) (inner:=[]) (ok:=fun _=>True) (okp:=fun _=>True) ?hr ?hp (fun _ hk=>hk) trivial (Below.refl _ _) (Nat.le_refl _) (by simp) ?_;(case hd=>rfl);(case hg=>rfl);(case hr=>first|(go_simp;done)|(go_simp;rfl));(case hp=>exact(Reps.none _ _));intro v320 w20 ho21 hb hg_ hnew_;clear hg_ hnew_;(first|rw [← Ny319.out] at ho21|(simp only [Int.reduceToNat] at ho21;rw [← Ny319.out] at ho21));have qq:=Ma (Kd.R_lower ho21 (below_size (by repeat(first|(with_reducible first|exact HB.out|apply Mk|apply Me|apply Mh|refine Md ?_ qk.out|refine Md ?_ ql.out)|exact HB.out))));have qr:=Ma (Mn (g:=qg) (o:=.cells #[.int .i64 a0_0,.int .i64 a0_1,.slice A0_2 l0_2.length c0_2] 27 (0,0)) (by(with_reducible repeat(first|refine Mg ?_ _|refine Mb ?_|refine Mf ?_ _));exact qb.out) hb);have qs:=Ma (Mn (g:=qh) (o:=.cells #[.int .i64 a1_0,.int .i64 a1_1,.slice A1_2 l1_2.length c1_2] 27 (0,0)) (by(with_reducible repeat(first|refine Mg ?_ _|refine Mb ?_|refine Mf ?_ _));exact qa.out) hb);have qw:=Ma (below_step (by repeat(first|(with_reducible first|exact HB.out|apply Mk|apply Me|apply Mh|refine Md ?_ qk.out|refine Md ?_ ql.out)|exact HB.out)) hb);clear qb;clear qa;clear HB;have HO321:=qq;have qb:=qr;have qa:=qs;have HB:=qw;clear qq qr qs qw;clear hb ho21;have hnb22:=yi.out;have hnc22:=yh.out;have zk:w20.cell? ⟨qh,0,none⟩=some (.int .i64 a1_0):=(Ml qa.out 0).trans rfl;have zl:w20.cell? ⟨qh,1,none⟩=some (.int .i64 a1_1):=(Ml qa.out 1).trans rfl;have zm:w20.cell? ⟨qh,2,none⟩=some (.slice A1_2 l1_2.length c1_2):=(Ml qa.out 2).trans rfl;have zn:=Mm qa.out 0;have zo:=Mm qa.out 1;have zp:=Mm qa.out 2)|((with_reducible refine gate_callee (f:=70) rfl ?_);refine goesL_ (some 31) rfl rfl Try.func70 (by kernel_rfl) rfl #[.agg #[.int .i64 a1_0,.int .i64 a1_1,.slice A1_2 l1_2.length c1_2]] rfl (by(try simp only [List.map_toArray,List.map_cons,List.map_nil]);first|done|rfl|(simp only [List.length_drop,List.length_take];rfl)) ?_;(with_reducible refine(impl_Picture_blocks.calls a1_0 a1_1 _ _ l1_2 qt _ ?side1 ?side2 A19.out).mono ?_);(case side1=>repeat(first|exact(Kd.C_below HR1_2.out HB.out)|(with_reducible refine Kd.C_alloc ?_ _)|(with_reducible refine Kd.C_drewN ?_ _)|(with_reducible refine Kd.C_drew ?_)));(case side2=>exact HC1_2.out);rintro e w24 ⟨rfl,hb⟩;refine⟨_,rfl,?_⟩;have qq:=Ma (Kd.R_below (by(with_reducible repeat(first|apply Mi|apply Mj|apply Mc));exact HO321.out) hb);have qr:=Ma (Mn (g:=qg) (o:=.cells #[.int .i64 a0_0,.int .i64 a0_1,.slice A0_2 l0_2.length c0_2] 27 (0,0)) (by(with_reducible repeat(first|refine Mg ?_ _|refine Mb ?_|refine Mf ?_ _));exact qb.out) hb);have qs:=Ma (Mn (g:=qh) (o:=.cells #[.int .i64 a1_0,.int .i64 a1_1,.slice A1_2 l1_2.length c1_2] 27 (0,0)) (by(with_reducible repeat(first|refine Mg ?_ _|refine Mb ?_|refine Mf ?_ _));exact qa.out) hb);have qw:=Ma (below_step (by repeat(first|(with_reducible first|exact HB.out|apply Mk|apply Me|apply Mh|refine Md ?_ qk.out|refine Md ?_ ql.out)|exact HB.out)) hb);clear HO321;clear qb;clear qa;clear HB;have HO321:=qq;have qb:=qr;have qa:=qs;have HB:=qw;clear qq qr qs qw;(try clear hb);(try clear hb2);(try clear hk);(try clear hi)))
    go_loopg [8,32] kj3 (fun kq v8 v32 w'=>∃ (qy:List Int) (qn:Int),v32=.int .i64 qn∧Aside0 (impl_Encode.l0 kq a2 qy qt qn a0_0 a0_1 l0_2 a1_0 a1_1 l1_2=some (r1,r2))∧Aside0 (kq≤kj3)∧Aside0 (Kd.R (Kd.int .u8) 5 w' w.heap.size (fun _=>True) v8 qy)∧Aside0 (w'.heap[qg]? = some (.cells #[.int .i64 a0_0,.int .i64 a0_1,(.slice A0_2 l0_2.length c0_2)] 27 (0,0)))∧Aside0 (w'.heap[qh]? = some (.cells #[.int .i64 a1_0,.int .i64 a1_1,(.slice A1_2 l1_2.length c1_2)] 27 (0,0)))∧Aside0 (Below w.heap.size w w'))
    case atStart=>exact⟨(y319),(0),(by first|rfl|(simp;done)|(simp [*];done)),H',⟨Nat.le_refl _⟩,⟨by(with_reducible repeat(first|apply Mi|apply Mj|apply Mc));exact HO321.out⟩,⟨by(with_reducible repeat(first|refine Mg ?_ _|refine Mb ?_|refine Mf ?_ _));exact qb.out⟩,⟨by(with_reducible repeat(first|refine Mg ?_ _|refine Mb ?_|refine Mf ?_ _));exact qa.out⟩,⟨by repeat(first|(with_reducible first|exact HB.out|apply Mk|apply Me|apply Mh|refine Md ?_ qk.out|refine Md ?_ ql.out)|exact HB.out)⟩⟩
    case round=>
     clear H'
     try clear c1
     try clear c2
     try clear p2
     try clear c4
     try clear c6
     try clear c7
     try clear c8
     try clear c10
     try clear c14
     try clear c18
     try clear c22
     try clear yk
     try clear yl
     try clear ym
     try clear yn
     try clear yo
     try clear yp
     try clear yq
     try clear yr
     try clear ys
     try clear yt
     try clear yu
     try clear yv
     try clear zk
     try clear zl
     try clear zm
     try clear yw
     try clear yx
     try clear yy
     try clear yz
     try clear za
     try clear zb
     try clear zc
     try clear zd
     try clear ze
     try clear zf
     try clear zg
     try clear zh
     try clear zn
     try clear zo
     try clear zp
     try clear p2
     obtain⟨qy,qn,rfl,HA,HK2,qf,qb,qa,HB⟩:=hrel
     cases gk with
     | zero => exact absurd HA.out (by simp [impl_Encode.l0])
     | succ k2 =>
      have H:=HA.out
      clear HA
      simp only [impl_Encode.l0] at H
      by_cases c25:qn < qt
      ·rw [if_pos c25] at H
       have c25b0:decide (qn < qt)=true:=decide_eq_true c25
       clear c25
       replace H:=Option.bind_eq_some_iff.mp H
       obtain⟨⟨yb,yc⟩,A260,H⟩:=H
       replace H:((impl_Picture_at.f k2 a1_0 a1_1 l1_2 qn 0 0).bind fun yd=>((impl_Picture_at.f k2 a0_0 a0_1 l0_2 qn yb yc).bind fun ye=>(impl_Encode.l1 k2 a2 qy yb yc yd ye qt qn (yd.length:Int) 0 a0_0 a0_1 l0_2 a1_0 a1_1 l1_2)))=some (r1,r2):=H
       have A26:=Ma A260
       clear A260
       replace H:=Option.bind_eq_some_iff.mp H
       obtain⟨yd,A270,H⟩:=H
       replace H:((impl_Picture_at.f k2 a0_0 a0_1 l0_2 qn yb yc).bind fun ye=>(impl_Encode.l1 k2 a2 qy yb yc yd ye qt qn (yd.length:Int) 0 a0_0 a0_1 l0_2 a1_0 a1_1 l1_2))=some (r1,r2):=H
       have A27:=Ma A270
       clear A270
       replace H:=Option.bind_eq_some_iff.mp H
       obtain⟨ye,A280,H⟩:=H
       replace H:(impl_Encode.l1 k2 a2 qy yb yc yd ye qt qn (yd.length:Int) 0 a0_0 a0_1 l0_2 a1_0 a1_1 l1_2)=some (r1,r2):=H
       have A28:=Ma A280
       clear A280
       have H':=Ma H
       clear H
       have hnb29:=yh.out
       have hnc29:=yi.out
       have hcz30_0:wr.cell? ⟨qg,0,none⟩=some (.int .i64 a0_0):=(Ml qb.out 0).trans rfl
       have hcz30_1:wr.cell? ⟨qg,1,none⟩=some (.int .i64 a0_1):=(Ml qb.out 1).trans rfl
       have hcz30_2:wr.cell? ⟨qg,2,none⟩=some (.slice A0_2 l0_2.length c0_2):=(Ml qb.out 2).trans rfl
       have hfz30_0:=Mm qb.out 0
       have hfz30_1:=Mm qb.out 1
       have hfz30_2:=Mm qb.out 2
       have hcz31_0:wr.cell? ⟨qh,0,none⟩=some (.int .i64 a1_0):=(Ml qa.out 0).trans rfl
       have hcz31_1:wr.cell? ⟨qh,1,none⟩=some (.int .i64 a1_1):=(Ml qa.out 1).trans rfl
       have hcz31_2:wr.cell? ⟨qh,2,none⟩=some (.slice A1_2 l1_2.length c1_2):=(Ml qa.out 2).trans rfl
       have hfz31_0:=Mm qa.out 0
       have hfz31_1:=Mm qa.out 1
       have hfz31_2:=Mm qa.out 2
       try go_wp2_with (first|((with_reducible refine gate_callee (f:=71) rfl ?_);refine goesL_ (some 39) rfl rfl Try.func71 (by kernel_rfl) rfl #[.agg #[.int .i64 a0_0,.int .i64 a0_1,.slice A0_2 l0_2.length c0_2],.agg #[.int .i64 a1_0,.int .i64 a1_1,.slice A1_2 l1_2.length c1_2],.int .i64 qn] rfl (by(try simp only [List.map_toArray,List.map_cons,List.map_nil]);first|done|rfl|(simp only [List.length_drop,List.length_take];rfl)) ?_;(with_reducible refine(impl_motion.calls k2 a0_0 a0_1 _ _ l0_2 a1_0 a1_1 _ _ l1_2 qn yb yc _ ?side1 ?side2 ?side3 ?side4 A26.out).mono ?_);(case side1=>repeat(first|exact(Kd.C_below HR0_2.out HB.out)|(with_reducible refine Kd.C_alloc ?_ _)|(with_reducible refine Kd.C_drewN ?_ _)|(with_reducible refine Kd.C_drew ?_)));(case side2=>exact HC0_2.out);(case side3=>repeat(first|exact(Kd.C_below HR1_2.out HB.out)|(with_reducible refine Kd.C_alloc ?_ _)|(with_reducible refine Kd.C_drewN ?_ _)|(with_reducible refine Kd.C_drew ?_)));(case side4=>exact HC1_2.out);rintro e w32 ⟨rfl,hb⟩;refine⟨_,rfl,?_⟩;have qq:=Ma (Kd.R_below (by(with_reducible repeat(first|apply Mi|apply Mj|apply Mc));exact qf.out) hb);have qr:=Ma (Mn (g:=qg) (o:=.cells #[.int .i64 a0_0,.int .i64 a0_1,.slice A0_2 l0_2.length c0_2] 27 (0,0)) (by(with_reducible repeat(first|refine Mg ?_ _|refine Mb ?_|refine Mf ?_ _));exact qb.out) hb);have qs:=Ma (Mn (g:=qh) (o:=.cells #[.int .i64 a1_0,.int .i64 a1_1,.slice A1_2 l1_2.length c1_2] 27 (0,0)) (by(with_reducible repeat(first|refine Mg ?_ _|refine Mb ?_|refine Mf ?_ _));exact qa.out) hb);have qw:=Ma (below_step (by repeat(first|(with_reducible first|exact HB.out|apply Mk|apply Me|apply Mh|refine Md ?_ qk.out|refine Md ?_ ql.out)|exact HB.out)) hb);clear qf;clear qb;clear qa;clear HB;have qf:=qq;have qb:=qr;have qa:=qs;have HB:=qw;clear qq qr qs qw;(try clear hb);(try clear hb2);(try clear hk);(try clear hi)))
       have qq:=Ma (Mc qf.out)
       have qr:=Ma (Mb qb.out)
       have qs:=Ma (Mb qa.out)
       have qw:=Ma (Mh HB.out)
       clear qf
       clear qb
       clear qa
       clear HB
       have qf:=qq
       have qb:=qr
       have qa:=qs
       have HB:=qw
       clear qq qr qs qw
       refine start_ (n:=10) (S:=fun w'=>w'.cell? ⟨qh,0,none⟩=some (.int .i64 a1_0)∧w'.cell? ⟨qh,1,none⟩=some (.int .i64 a1_1)∧w'.cell? ⟨qh,2,none⟩=some (.slice A1_2 l1_2.length c1_2)∧w'.cell? ⟨qg,0,none⟩=some (.int .i64 a0_0)∧w'.cell? ⟨qg,1,none⟩=some (.int .i64 a0_1)∧w'.cell? ⟨qg,2,none⟩=some (.slice A0_2 l0_2.length c0_2)) (ds:=[]) #[false,false,false,false,false,false,false,false,false,false] (by kernel_rfl) rfl rfl ⟨(Ml qa.out 0).trans rfl,(Ml qa.out 1).trans rfl,(Ml qa.out 2).trans rfl,(Ml qb.out 0).trans rfl,(Ml qb.out 1).trans rfl,(Ml qb.out 2).trans rfl⟩ (fun hHeld=>?_);refine with_tabW impl_Encode.tab8 impl_Encode.bits8 (fun HT_ HW_=>?_)
       generalize w32.drew=w33 at qf qb qa HB hHeld ⊢
       refine pure_ (i:=1) (N:=some 43) (v:=?_) (a':=?_) #[false,true,false,false,false,false,false,false,false,false] rfl rfl (any_of HT_.out (by kernel_rfl)) (fun _ _ _ h=>h) (Or.inl ⟨by rfl,?_⟩) ?_ ?_
       rotate_left
       ·intro w'
        go_simp
        with_reducible rfl
       rotate_left
       ·simp only [Act.put,List.setIfInBounds_toArray,List.set_cons_zero,List.set_cons_succ,i64_w,i32_w]
        rfl
       refine pure_ (i:=4) (N:=some 46) (v:=?_) (a':=?_) #[false,true,false,false,true,false,false,false,false,false] rfl rfl (any_of HT_.out (by kernel_rfl)) (fun _ _ _ h=>h) (Or.inl ⟨by rfl,?_⟩) ?_ ?_
       rotate_left
       ·intro w'
        go_simp
        with_reducible rfl
       rotate_left
       ·simp only [Act.put,List.setIfInBounds_toArray,List.set_cons_zero,List.set_cons_succ,i64_w,i32_w]
        rfl
       refine pure_ (i:=5) (N:=some 47) (v:=?_) (a':=?_) #[false,true,false,false,true,true,false,false,false,false] rfl rfl (any_of HT_.out (by kernel_rfl)) (fun _ _ _ h=>h) (Or.inl ⟨by rfl,?_⟩) ?_ ?_
       rotate_left
       ·intro w'
        go_simp
        with_reducible rfl
       rotate_left
       ·simp only [Act.put,List.setIfInBounds_toArray,List.set_cons_zero,List.set_cons_succ,i64_w,i32_w]
        rfl
       refine pure_ (i:=6) (N:=some 48) (v:=?_) (a':=?_) #[false,true,false,false,true,true,true,false,false,false] rfl rfl (any_of HT_.out (by kernel_rfl)) (fun _ _ _ h=>h) (Or.inl ⟨by rfl,?_⟩) ?_ ?_
       rotate_left
       ·intro w'
        go_simp
        with_reducible rfl
       rotate_left
       ·simp only [Act.put,List.setIfInBounds_toArray,List.set_cons_zero,List.set_cons_succ,i64_w,i32_w]
        rfl
       refine take_ (i:=0) (N:=some 42) (v:=?_) (a':=?_) #[true,true,false,false,true,true,true,false,false,false] rfl rfl (take_ofW HT_.out HW_.out (by kernel_rfl)) (fun _ _ _ h=>h) (Or.inl ⟨by rfl,?_⟩) hHeld ?_ ?_
       rotate_left
       ·rintro w' ⟨s0,s1,s2,s3,s4,s5⟩
        go_simp
        with_reducible rfl
       rotate_left
       ·simp only [Act.put,List.setIfInBounds_toArray,List.set_cons_zero,List.set_cons_succ,i64_w,i32_w]
        rfl
       refine take_ (i:=3) (N:=some 45) (v:=?_) (a':=?_) #[true,true,false,true,true,true,true,false,false,false] rfl rfl (take_ofW HT_.out HW_.out (by kernel_rfl)) (fun _ _ _ h=>h) (Or.inl ⟨by rfl,?_⟩) hHeld ?_ ?_
       rotate_left
       ·rintro w' ⟨s0,s1,s2,s3,s4,s5⟩
        go_simp
        with_reducible rfl
       rotate_left
       ·simp only [Act.put,List.setIfInBounds_toArray,List.set_cons_zero,List.set_cons_succ,i64_w,i32_w]
        rfl
       refine one_ (i:=2) (N:=some 44) #[true,true,true,true,true,true,true,false,false,false] rfl rfl (one_of HT_.out (by kernel_rfl)) (by decide) (fun K hK=>?_)
       refine goes_ Try.func78 (by kernel_rfl) rfl #[.agg #[.int .i64 a1_0,.int .i64 a1_1,.slice A1_2 l1_2.length c1_2],.int .i64 qn,.int .i64 0,.int .i64 0] (by rfl) rfl rfl (by(try simp only [List.map_toArray,List.map_cons,List.map_nil]);first|done|rfl|(simp only [List.length_drop,List.length_take];rfl)) ?_
       with_reducible refine(impl_Picture_at.calls k2 a1_0 a1_1 _ _ l1_2 qn 0 0 yd _ ?side1 ?side2 A27.out).mono ?_
       (case side1=>repeat(first|exact(Kd.C_below HR1_2.out HB.out)|(with_reducible refine Kd.C_alloc ?_ _)|(with_reducible refine Kd.C_drewN ?_ _)|(with_reducible refine Kd.C_drew ?_)))
       (case side2=>exact HC1_2.out)
       rintro e w34 ⟨v326,rfl,ho0,hb⟩
       refine⟨_,rfl,?_⟩
       have qq:=Ma (Kd.R_below (by(with_reducible repeat(first|apply Mi|apply Mj|apply Mc));exact qf.out) hb)
       have qr:=Ma (Kd.R_lower ho0 (below_size (by repeat(first|(with_reducible first|exact HB.out|apply Mk|apply Me|apply Mh|refine Md ?_ qk.out|refine Md ?_ ql.out)|exact HB.out))))
       have qs:=Ma (Mn (g:=qg) (o:=.cells #[.int .i64 a0_0,.int .i64 a0_1,.slice A0_2 l0_2.length c0_2] 27 (0,0)) (by(with_reducible repeat(first|refine Mg ?_ _|refine Mb ?_|refine Mf ?_ _));exact qb.out) hb)
       have qw:=Ma (Mn (g:=qh) (o:=.cells #[.int .i64 a1_0,.int .i64 a1_1,.slice A1_2 l1_2.length c1_2] 27 (0,0)) (by(with_reducible repeat(first|refine Mg ?_ _|refine Mb ?_|refine Mf ?_ _));exact qa.out) hb)
       have yg:=Ma (below_step (by repeat(first|(with_reducible first|exact HB.out|apply Mk|apply Me|apply Mh|refine Md ?_ qk.out|refine Md ?_ ql.out)|exact HB.out)) hb)
       clear qf
       clear qb
       clear qa
       clear HB
       have qf:=qq
       have zx:=qr
       have qb:=qs
       have qa:=qw
       have HB:=yg
       clear qq qr qs qw yg
       (try clear hb)
       (try clear hb2)
       (try clear hk)
       (try clear hi)
       (try clear ho0)
       refine hK.out _ _ ⟨(Ml qa.out 0).trans rfl,(Ml qa.out 1).trans rfl,(Ml qa.out 2).trans rfl,(Ml qb.out 0).trans rfl,(Ml qb.out 1).trans rfl,(Ml qb.out 2).trans rfl⟩ (fun hHeld=>?_)
       clear hK K
       refine norm_ (a':=?_) ?_ ?_
       rotate_left
       ·show Act.put _ (some 44) _=_
        simp only [Act.put,List.setIfInBounds_toArray,List.set_cons_zero,List.set_cons_succ,i64_w,i32_w]
        rfl
       refine one_ (i:=7) (N:=some 49) #[true,true,true,true,true,true,true,true,false,false] rfl rfl (one_of HT_.out (by kernel_rfl)) (by decide) (fun K hK=>?_)
       refine goes_ Try.func78 (by kernel_rfl) rfl #[.agg #[.int .i64 a0_0,.int .i64 a0_1,.slice A0_2 l0_2.length c0_2],.int .i64 qn,.int .i64 yb,.int .i64 yc] (by rfl) rfl rfl (by(try simp only [List.map_toArray,List.map_cons,List.map_nil]);first|done|rfl|(simp only [List.length_drop,List.length_take];rfl)) ?_
       with_reducible refine(impl_Picture_at.calls k2 a0_0 a0_1 _ _ l0_2 qn yb yc ye _ ?side1 ?side2 A28.out).mono ?_
       (case side1=>repeat(first|exact(Kd.C_below HR0_2.out HB.out)|(with_reducible refine Kd.C_alloc ?_ _)|(with_reducible refine Kd.C_drewN ?_ _)|(with_reducible refine Kd.C_drew ?_)))
       (case side2=>exact HC0_2.out)
       rintro e w35 ⟨v329,rfl,ho0,hb⟩
       refine⟨_,rfl,?_⟩
       have qq:=Ma (Kd.R_below (by(with_reducible repeat(first|apply Mi|apply Mj|apply Mc));exact qf.out) hb)
       have qr:=Ma (Kd.R_elder' (by(with_reducible repeat(first|apply Mi|apply Mj|apply Mc));exact zx.out) (Kd.R_base ho0) hb)
       have qs:=Ma (Kd.R_lower (Kd.R_new' ho0 (Kd.R_lt (by(with_reducible repeat(first|apply Mi|apply Mj|apply Mc));exact zx.out))) (below_size (by repeat(first|(with_reducible first|exact HB.out|apply Mk|apply Me|apply Mh|refine Md ?_ qk.out|refine Md ?_ ql.out)|exact HB.out))))
       have qw:=Ma (Mn (g:=qg) (o:=.cells #[.int .i64 a0_0,.int .i64 a0_1,.slice A0_2 l0_2.length c0_2] 27 (0,0)) (by(with_reducible repeat(first|refine Mg ?_ _|refine Mb ?_|refine Mf ?_ _));exact qb.out) hb)
       have yg:=Ma (Mn (g:=qh) (o:=.cells #[.int .i64 a1_0,.int .i64 a1_1,.slice A1_2 l1_2.length c1_2] 27 (0,0)) (by(with_reducible repeat(first|refine Mg ?_ _|refine Mb ?_|refine Mf ?_ _));exact qa.out) hb)
       have n5_:=Ma (below_step (by repeat(first|(with_reducible first|exact HB.out|apply Mk|apply Me|apply Mh|refine Md ?_ qk.out|refine Md ?_ ql.out)|exact HB.out)) hb)
       clear qf
       clear zx
       clear qb
       clear qa
       clear HB
       have qf:=qq
       have zx:=qr
       have HO330:=qs
       have qb:=qw
       have qa:=yg
       have HB:=n5_
       clear qq qr qs qw yg n5_
       (try clear hb)
       (try clear hb2)
       (try clear hk)
       (try clear hi)
       (try clear ho0)
       refine hK.out _ _ ⟨(Ml qa.out 0).trans rfl,(Ml qa.out 1).trans rfl,(Ml qa.out 2).trans rfl,(Ml qb.out 0).trans rfl,(Ml qb.out 1).trans rfl,(Ml qb.out 2).trans rfl⟩ (fun hHeld=>?_)
       clear hK K
       refine norm_ (a':=?_) ?_ ?_
       rotate_left
       ·show Act.put _ (some 49) _=_
        simp only [Act.put,List.setIfInBounds_toArray,List.set_cons_zero,List.set_cons_succ,i64_w,i32_w]
        rfl
       refine pure_ (i:=8) (N:=some 12) (v:=?_) (a':=?_) #[true,true,true,true,true,true,true,true,true,false] rfl rfl (any_of HT_.out (by kernel_rfl)) (fun _ _ _ h=>h) (Or.inl ⟨by rfl,?_⟩) ?_ ?_
       rotate_left
       ·intro w'
        go_simp
        with_reducible rfl
       rotate_left
       ·simp only [Act.put,List.setIfInBounds_toArray,List.set_cons_zero,List.set_cons_succ,i64_w,i32_w]
        rfl
       refine pure_ (i:=9) (N:=some 13) (v:=?_) (a':=?_) #[true,true,true,true,true,true,true,true,true,true] rfl rfl (any_of HT_.out (by kernel_rfl)) (fun _ _ _ h=>h) (Or.inl ⟨by rfl,?_⟩) ?_ ?_
       rotate_left
       ·intro w'
        go_simp
        with_reducible rfl
       rotate_left
       ·simp only [Act.put,List.setIfInBounds_toArray,List.set_cons_zero,List.set_cons_succ,i64_w,i32_w]
        rfl
       refine done_ (done_of HT_.out (by kernel_rfl)) ?_
       obtain⟨Ao36,co36,eo36⟩:=Kd.R_slice zx.out
       subst eo36
       try go_wp2
       go_loopg [52] k2 (fun kq v52 w'=>∃ (qx:List Int) (qj:Int),v52=.int .i64 qj∧Aside0 (impl_Encode.l1 kq a2 qy yb yc qx ye qt qn (yd.length:Int) qj a0_0 a0_1 l0_2 a1_0 a1_1 l1_2=some (r1,r2))∧Aside0 (kq≤k2)∧Aside0 (Kd.R (Kd.int .u8) 5 w' w.heap.size (fun _=>True) u8 qy)∧Aside0 (Kd.R (Kd.int .i64) 2 w' w.heap.size (fun k_=>some k_≠(v329:Value).ownBlock) (.slice Ao36 yd.length co36) qx)∧Aside0 (Kd.R (Kd.int .i64) 2 w' w.heap.size (fun k_=>some k_≠((.slice Ao36 yd.length co36):Value).ownBlock) v329 ye)∧Aside0 (w'.heap[qg]? = some (.cells #[.int .i64 a0_0,.int .i64 a0_1,(.slice A0_2 l0_2.length c0_2)] 27 (0,0)))∧Aside0 (w'.heap[qh]? = some (.cells #[.int .i64 a1_0,.int .i64 a1_1,(.slice A1_2 l1_2.length c1_2)] 27 (0,0)))∧Aside0 (Below w.heap.size w w'))
       case atStart=>exact⟨(yd),(0),(by first|rfl|(simp;done)|(simp [*];done)),H',⟨Nat.le_refl _⟩,⟨by(with_reducible repeat(first|apply Mi|apply Mj|apply Mc));exact qf.out⟩,⟨by(with_reducible repeat(first|apply Mi|apply Mj|apply Mc));exact Kd.R_mono zx.out (fun _ hk=>hk.2)⟩,⟨by(with_reducible repeat(first|apply Mi|apply Mj|apply Mc));exact Kd.R_mono HO330.out (fun _ hk=>hk.2)⟩,⟨by(with_reducible repeat(first|refine Mg ?_ _|refine Mb ?_|refine Mf ?_ _));exact qb.out⟩,⟨by(with_reducible repeat(first|refine Mg ?_ _|refine Mb ?_|refine Mf ?_ _));exact qa.out⟩,⟨by repeat(first|(with_reducible first|exact HB.out|apply Mk|apply Me|apply Mh|refine Md ?_ qk.out|refine Md ?_ ql.out)|exact HB.out)⟩⟩
       case round=>
        clear H'
        try clear c1
        try clear c2
        try clear p2
        try clear c4
        try clear c6
        try clear c7
        try clear c8
        try clear c10
        try clear c14
        try clear c18
        try clear c22
        try clear c25
        try clear c25b0
        try clear c29
        try clear yk
        try clear yl
        try clear ym
        try clear yn
        try clear yo
        try clear yp
        try clear yq
        try clear yr
        try clear ys
        try clear yt
        try clear yu
        try clear yv
        try clear zk
        try clear zl
        try clear zm
        try clear hcz30_0
        try clear hcz30_1
        try clear hcz30_2
        try clear hcz31_0
        try clear hcz31_1
        try clear hcz31_2
        try clear yw
        try clear yx
        try clear yy
        try clear yz
        try clear za
        try clear zb
        try clear zc
        try clear zd
        try clear ze
        try clear zf
        try clear zg
        try clear zh
        try clear zn
        try clear zo
        try clear zp
        try clear hfz30_0
        try clear hfz30_1
        try clear hfz30_2
        try clear hfz31_0
        try clear hfz31_1
        try clear hfz31_2
        try clear p2
        obtain⟨qx,qj,rfl,HA,HK3,qf,qu,yf,qb,qa,HB⟩:=hrel
        have qd:=(Mo qu.out).1
        rw [qd] at qu
        (try simp only [qd])
        (try simp only [qd] at qb)
        (try simp only [qd] at qa)
        (try simp only [qd] at qf)
        (try simp only [qd] at yf)
        cases gk with
        | zero => exact absurd HA.out (by simp [impl_Encode.l1])
        | succ k3 =>
         have H:=HA.out
         clear HA
         simp only [impl_Encode.l1] at H
         by_cases c37:qj < (yd.length:Int)
         ·rw [if_pos c37] at H
          have c37b0:decide (qj < (yd.length:Int))=true:=decide_eq_true c37
          clear c37
          by_cases c38:0≤qj
          ·rw [if_pos c38] at H
           have c38b0:decide (0≤qj)=true:=decide_eq_true c38
           clear c38
           by_cases c39:qj < (qx.length:Int)
           ·rw [if_pos c39] at H
            have c39b0:decide (qj < (qx.length:Int))=true:=decide_eq_true c39
            clear c39
            by_cases c40:qj < (ye.length:Int)
            ·rw [if_pos c40] at H
             have c40b0:decide (qj < (ye.length:Int))=true:=decide_eq_true c40
             clear c40
             obtain⟨y333,hy333⟩:∃ y_:List Int,y_=(qx.set (qj:Int).toNat (wrap64 ((rd qx qj) - (rd ye qj)))):=⟨_,rfl⟩
             replace H:(impl_Encode.l1 k3 a2 qy yb yc y333 ye qt qn (yd.length:Int) (wrap64 (qj+1)) a0_0 a0_1 l0_2 a1_0 a1_1 l1_2)=some (r1,r2):=by first|(rw [hy333];with_reducible exact H)|(have zj:=(Option.bind_some _ _).symm.trans H;rw [hy333];with_reducible exact zj)|(have zj:=(Option.bind_some _ _).symm.trans H;with_reducible exact zj)|with_reducible exact H|(rw [hy333];exact H)|exact H
             have Ny333:=Ma hy333
             clear hy333
             have H':=Ma H
             clear H
             try go_wp2
             have qq:=Ma (Mc qf.out)
             have qr:=Ma (Mc qu.out)
             have qs:=Ma (Mc yf.out)
             have qw:=Ma (Mb qb.out)
             have yg:=Ma (Mb qa.out)
             have n5_:=Ma (Mh HB.out)
             clear qf
             clear qu
             clear yf
             clear qb
             clear qa
             clear HB
             have qf:=qq
             have qu:=qr
             have yf:=qs
             have qb:=qw
             have qa:=yg
             have HB:=n5_
             clear qq qr qs qw yg n5_
             have p331:0≤(qj:Int):=of_decide_eq_true (by first|(with_reducible assumption)|assumption)
             have q331:qj < (qx.length:Int):=of_decide_eq_true (by first|(with_reducible assumption)|assumption)
             obtain⟨ad331,e331,zi⟩:=Kd.at_int (Mo qu.out).2.2 qj p331 q331
             cases e331
             replace p331:=eq_true p331
             replace q331:=eq_true q331
             obtain⟨Ao43,co43,eo43⟩:=Kd.R_slice yf.out
             (first|subst eo43|(injection eo43 with f1_ f2_ f3_;have f4_:=f1_.symm;have f5_:=f3_.symm;clear f1_ f2_ f3_;subst f4_;subst f5_))
             have p332:0≤(qj:Int):=of_decide_eq_true (by first|(with_reducible assumption)|assumption)
             have q332:qj < (ye.length:Int):=of_decide_eq_true (by first|(with_reducible assumption)|assumption)
             obtain⟨ad332,e332,zq⟩:=Kd.at_int (Mo yf.out).2.2 qj p332 q332
             cases e332
             replace p332:=eq_true p332
             replace q332:=eq_true q332
             have p41:0≤(qj:Int):=of_decide_eq_true (by first|(with_reducible assumption)|assumption)
             have q41:(qj:Int) < ((qx.length:Int):Int):=of_decide_eq_true (by first|(with_reducible assumption)|assumption)
             obtain⟨go41,co41,eo41,gb41,gl41,cl41,HG41⟩:=Kd.R_form qu.out (by omega)
             (first|cases eo41|(injection eo41 with ea_ en_ ec_;(first|subst ea_|(injection ea_ with ea_;subst ea_));subst ec_;clear en_))
             have GB41:=Ma gb41
             have GG41:=Ma HG41
             clear gb41 gl41 HG41
             (first|simp only [add_plain] at zi|skip)
             obtain⟨hx41_0,hf41_0⟩:=Kd.R_celln 0 qu.out (qj:Int) p41 q41
             replace p41:=eq_true p41
             replace q41:=eq_true q41
             have HP44:=Kd.R_putn qu.out (qj:Int) (wrap64 ((rd qx qj) - (rd ye qj)))
             rw [← Ny333.out] at HP44
             have HQ44:=Ma HP44
             clear HP44
             refine start_ (n:=11) (S:=fun w'=>w'.cell? ⟨go41,(qj).toNat,none⟩=some (.int .i64 (rd qx qj))∧w'.cell? (ad332.add (qj).toNat)=some (.int .i64 (rd ye qj))) (ds:=[10]) #[false,false,false,false,false,false,false,false,false,false,false] (by kernel_rfl) rfl rfl ⟨zi,zq⟩ (fun hHeld=>?_);refine with_tabW impl_Encode.tab12 impl_Encode.bits12 (fun HT_ HW_=>?_)
             generalize wr.drew=w42 at qf qu yf qb qa HB GG41 HQ44 hf41_0 zi zq hx41_0 hHeld ⊢
             refine pure_ (i:=0) (N:=some 55) (v:=?_) (a':=?_) #[true,false,false,false,false,false,false,false,false,false,false] rfl rfl (any_of HT_.out (by kernel_rfl)) (fun _ _ _ h=>h) (Or.inl ⟨by rfl,?_⟩) ?_ ?_
             rotate_left
             ·intro w'
              go_simp
              with_reducible rfl
             rotate_left
             ·simp only [Act.put,List.setIfInBounds_toArray,List.set_cons_zero,List.set_cons_succ,i64_w,i32_w]
              rfl
             refine pure_ (i:=1) (N:=some 56) (v:=?_) (a':=?_) #[true,true,false,false,false,false,false,false,false,false,false] rfl rfl (any_of HT_.out (by kernel_rfl)) (fun _ _ _ h=>h) (Or.inl ⟨by rfl,?_⟩) ?_ ?_
             rotate_left
             ·intro w'
              go_simp
              with_reducible rfl
             rotate_left
             ·simp only [Act.put,List.setIfInBounds_toArray,List.set_cons_zero,List.set_cons_succ,i64_w,i32_w]
              rfl
             refine pure_ (i:=2) (N:=some 57) (v:=?_) (a':=?_) #[true,true,true,false,false,false,false,false,false,false,false] rfl rfl (any_of HT_.out (by kernel_rfl)) (fun _ _ _ h=>h) (Or.inl ⟨by rfl,?_⟩) ?_ ?_
             rotate_left
             ·intro w'
              go_simp
              with_reducible rfl
             rotate_left
             ·simp only [Act.put,List.setIfInBounds_toArray,List.set_cons_zero,List.set_cons_succ,i64_w,i32_w]
              rfl
             refine pure_ (i:=4) (N:=some 59) (v:=?_) (a':=?_) #[true,true,true,false,true,false,false,false,false,false,false] rfl rfl (any_of HT_.out (by kernel_rfl)) (fun _ _ _ h=>h) (Or.inl ⟨by rfl,?_⟩) ?_ ?_
             rotate_left
             ·intro w'
              go_simp
              with_reducible rfl
             rotate_left
             ·simp only [Act.put,List.setIfInBounds_toArray,List.set_cons_zero,List.set_cons_succ,i64_w,i32_w]
              rfl
             refine pure_ (i:=5) (N:=some 60) (v:=?_) (a':=?_) #[true,true,true,false,true,true,false,false,false,false,false] rfl rfl (any_of HT_.out (by kernel_rfl)) (fun _ _ _ h=>h) (Or.inl ⟨by rfl,?_⟩) ?_ ?_
             rotate_left
             ·intro w'
              go_simp
              with_reducible rfl
             rotate_left
             ·simp only [Act.put,List.setIfInBounds_toArray,List.set_cons_zero,List.set_cons_succ,i64_w,i32_w]
              rfl
             refine pure_ (i:=6) (N:=some 61) (v:=?_) (a':=?_) #[true,true,true,false,true,true,true,false,false,false,false] rfl rfl (any_of HT_.out (by kernel_rfl)) (fun _ _ _ h=>h) (Or.inl ⟨by rfl,?_⟩) ?_ ?_
             rotate_left
             ·intro w'
              go_simp
              with_reducible rfl
             rotate_left
             ·simp only [Act.put,List.setIfInBounds_toArray,List.set_cons_zero,List.set_cons_succ,i64_w,i32_w]
              rfl
             refine take_ (i:=3) (N:=some 58) (v:=?_) (a':=?_) #[true,true,true,true,true,true,true,false,false,false,false] rfl rfl (take_ofW HT_.out HW_.out (by kernel_rfl)) (fun _ _ _ h=>h) (Or.inl ⟨by rfl,?_⟩) hHeld ?_ ?_
             rotate_left
             ·rintro w' ⟨s0,s1⟩
              go_simp
              with_reducible rfl
             rotate_left
             ·simp only [Act.put,List.setIfInBounds_toArray,List.set_cons_zero,List.set_cons_succ,i64_w,i32_w]
              rfl
             refine take_ (i:=7) (N:=some 62) (v:=?_) (a':=?_) #[true,true,true,true,true,true,true,true,false,false,false] rfl rfl (take_ofW HT_.out HW_.out (by kernel_rfl)) (fun _ _ _ h=>h) (Or.inl ⟨by rfl,?_⟩) hHeld ?_ ?_
             rotate_left
             ·rintro w' ⟨s0,s1⟩
              go_simp
              with_reducible rfl
             rotate_left
             ·simp only [Act.put,List.setIfInBounds_toArray,List.set_cons_zero,List.set_cons_succ,i64_w,i32_w]
              rfl
             refine pure_ (i:=8) (N:=some 63) (v:=?_) (a':=?_) #[true,true,true,true,true,true,true,true,true,false,false] rfl rfl (any_of HT_.out (by kernel_rfl)) (fun _ _ _ h=>h) (Or.inl ⟨by rfl,?_⟩) ?_ ?_
             rotate_left
             ·intro w'
              go_simp
              with_reducible rfl
             rotate_left
             ·simp only [Act.put,List.setIfInBounds_toArray,List.set_cons_zero,List.set_cons_succ,i64_w,i32_w]
              rfl
             refine pure_ (i:=9) (N:=some 64) (v:=?_) (a':=?_) #[true,true,true,true,true,true,true,true,true,true,false] rfl rfl (any_of HT_.out (by kernel_rfl)) (fun _ _ _ h=>h) (Or.inl ⟨by rfl,?_⟩) ?_ ?_
             rotate_left
             ·intro w'
              go_simp
              with_reducible rfl
             rotate_left
             ·simp only [Act.put,List.setIfInBounds_toArray,List.set_cons_zero,List.set_cons_succ,i64_w,i32_w]
              rfl
             refine last_ (i:=10) (N:=none) #[true,true,true,true,true,true,true,true,true,true,true] rfl rfl (one_of HT_.out (by kernel_rfl)) (by decide) (fun K hK=>?_)
             refine skip_ (w1:=?_) (by rfl) rfl ?_ ?_
             rotate_left
             ·go_simp
              rfl
             refine hK.out _ _ ?_
             clear hK K
             refine done_ (done_of HT_.out (by kernel_rfl)) ?_
             try go_wp2
             (try simp only [← qd])
             go_roundg k3
             case measure=>have:=HJ3.out;have:=HK2.out;have:=HK3.out;omega
             case rel=>exact⟨(y333),(wrap64 (qj+1)),(by first|rfl|(simp;done)|(simp [*];done)),H',⟨by have:=HJ3.out;have:=HK2.out;have:=HK3.out;omega⟩,⟨by(try simp only [qd]);(with_reducible repeat(first|apply Mi|apply Mj|apply Mc));exact Kd.R_mono (Kd.R_far (p:=⟨go41,(qj:Int).toNat,none⟩) (Kd.R_types qf.out GG41.out (by decide)) (fun _ hk=>hk.2) (.int .i64 (wrap64 ((rd qx qj) - (rd ye qj))))) (fun _ hk=>trivial)⟩,⟨by(try simp only [qd]);(with_reducible repeat(first|apply Mi|apply Mj|apply Mc));exact HQ44.out⟩,⟨by(try simp only [qd]);(with_reducible repeat(first|apply Mi|apply Mj|apply Mc));exact Kd.R_mono (Kd.R_far (p:=⟨go41,(qj:Int).toNat,none⟩) (Kd.R_mono yf.out (fun k_ hk=>(⟨hk,fun e_=>hk (by rw [e_];rfl)⟩:_∧k_≠go41))) (fun _ hk=>hk.2) (.int .i64 (wrap64 ((rd qx qj) - (rd ye qj))))) (fun _ hk=>hk.1)⟩,⟨by(try simp only [qd]);(with_reducible repeat(first|refine Mg ?_ _|refine Mb ?_|refine Mf ?_ _));refine blk_far ?_ (by have h_:=Kd.R_ne qu.out qb.out (by decide);intro e_;exact h_ (by rw [e_];rfl)) _;(with_reducible repeat(first|refine Mg ?_ _|refine Mb ?_|refine Mf ?_ _));exact qb.out⟩,⟨by(try simp only [qd]);(with_reducible repeat(first|refine Mg ?_ _|refine Mb ?_|refine Mf ?_ _));refine blk_far ?_ (by have h_:=Kd.R_ne qu.out qa.out (by decide);intro e_;exact h_ (by rw [e_];rfl)) _;(with_reducible repeat(first|refine Mg ?_ _|refine Mb ?_|refine Mf ?_ _));exact qa.out⟩,⟨by repeat(first|(with_reducible first|exact HB.out|apply Mk|apply Me|apply Mh|refine Md ?_ GB41.out|refine Md ?_ qk.out|refine Md ?_ ql.out)|exact HB.out)⟩⟩
            ·rw [if_neg c40] at H
             exact absurd H (by simp)
           ·rw [if_neg c39] at H
            exact absurd H (by simp)
          ·rw [if_neg c38] at H
           exact absurd H (by simp)
         ·rw [if_neg c37] at H
          have c37b0:decide (qj < (yd.length:Int))=false:=decide_eq_false c37
          have c37b1:decide (qj < (qx.length:Int))=false:=by rw [← qd];exact c37b0
          clear c37
          replace H:=Option.bind_eq_some_iff.mp H
          obtain⟨yj,A450,H⟩:=H
          replace H:(impl_Encode.l2 k3 a2 qy yb yc yj 0 qt qn (yj.length:Int) 0 a0_0 a0_1 l0_2 a1_0 a1_1 l1_2)=some (r1,r2):=H
          have A45:=Ma A450
          clear A450
          have H':=Ma H
          clear H
          go_wp2_with (first|((with_reducible refine gate_callee (f:=56) rfl ?_);refine goesL_ (some 67) rfl rfl Try.func56 (by kernel_rfl) rfl #[.slice Ao36 qx.length co36] rfl (by(try simp only [List.map_toArray,List.map_cons,List.map_nil]);first|done|rfl|(simp only [List.length_drop,List.length_take];rfl)) ?_;(with_reducible refine(impl_turn.calls _ _ qx yj _ ?side1 ?side2 A45.out).mono ?_);(case side1=>repeat(first|exact(Mo qu.out).2.2|(with_reducible refine Kd.C_alloc ?_ _)|(with_reducible refine Kd.C_drewN ?_ _)|(with_reducible refine Kd.C_drew ?_)));(case side2=>exact(Mo qu.out).2.1);rintro e w46 ⟨v335,rfl,ho0,hb⟩;refine⟨_,rfl,?_⟩;have qq:=Ma (Kd.R_below (by(with_reducible repeat(first|apply Mi|apply Mj|apply Mc));exact qf.out) hb);have qr:=Ma (Kd.R_elder' (by(with_reducible repeat(first|apply Mi|apply Mj|apply Mc));exact qu.out) (Kd.R_base ho0) hb);have qs:=Ma (Kd.R_elder' (by(with_reducible repeat(first|apply Mi|apply Mj|apply Mc));exact yf.out) (Kd.R_base ho0) hb);have qw:=Ma (Kd.R_lower (Kd.R_new' (Kd.R_new' ho0 (Kd.R_lt (by(with_reducible repeat(first|apply Mi|apply Mj|apply Mc));exact qu.out))) (Kd.R_lt (by(with_reducible repeat(first|apply Mi|apply Mj|apply Mc));exact yf.out))) (below_size (by repeat(first|(with_reducible first|exact HB.out|apply Mk|apply Me|apply Mh|refine Md ?_ qk.out|refine Md ?_ ql.out)|exact HB.out))));have yg:=Ma (Mn (g:=qg) (o:=.cells #[.int .i64 a0_0,.int .i64 a0_1,.slice A0_2 l0_2.length c0_2] 27 (0,0)) (by(with_reducible repeat(first|refine Mg ?_ _|refine Mb ?_|refine Mf ?_ _));exact qb.out) hb);have n5_:=Ma (Mn (g:=qh) (o:=.cells #[.int .i64 a1_0,.int .i64 a1_1,.slice A1_2 l1_2.length c1_2] 27 (0,0)) (by(with_reducible repeat(first|refine Mg ?_ _|refine Mb ?_|refine Mf ?_ _));exact qa.out) hb);have n6_:=Ma (below_step (by repeat(first|(with_reducible first|exact HB.out|apply Mk|apply Me|apply Mh|refine Md ?_ qk.out|refine Md ?_ ql.out)|exact HB.out)) hb);clear qf;clear qu;clear yf;clear qb;clear qa;clear HB;have qf:=qq;have qu:=qr;have yf:=qs;have HO336:=qw;have qb:=yg;have qa:=n5_;have HB:=n6_;clear qq qr qs qw yg n5_ n6_;(try clear hb);(try clear hb2);(try clear hk);(try clear hi);(try clear ho0);obtain⟨Ao47,zu,eo47⟩:=Kd.R_slice HO336.out;subst eo47))
          go_loopg [16,70] k3 (fun kq v16 v70 w'=>∃ (qi:List Int) (qo:Int) (qc:Int),v16=.int .i64 qo∧v70=.int .i64 qc∧Aside0 (impl_Encode.l2 kq a2 qy yb yc qi qo qt qn (yj.length:Int) qc a0_0 a0_1 l0_2 a1_0 a1_1 l1_2=some (r1,r2))∧Aside0 (kq≤k3)∧Aside0 (Kd.R (Kd.int .u8) 5 w' w.heap.size (fun _=>True) u8 qy)∧Aside0 (Kd.R (Kd.int .i64) 2 w' w.heap.size (fun _=>True) (.slice Ao47 yj.length zu) qi)∧Aside0 (w'.heap[qg]? = some (.cells #[.int .i64 a0_0,.int .i64 a0_1,(.slice A0_2 l0_2.length c0_2)] 27 (0,0)))∧Aside0 (w'.heap[qh]? = some (.cells #[.int .i64 a1_0,.int .i64 a1_1,(.slice A1_2 l1_2.length c1_2)] 27 (0,0)))∧Aside0 (Below w.heap.size w w'))
          case atStart=>exact⟨(yj),(0),(0),(by first|rfl|(simp;done)|(simp [*];done)),(by first|rfl|(simp;done)|(simp [*];done)),H',⟨Nat.le_refl _⟩,⟨by(try simp only [qd]);(with_reducible repeat(first|apply Mi|apply Mj|apply Mc));exact qf.out⟩,⟨by(try simp only [qd]);(with_reducible repeat(first|apply Mi|apply Mj|apply Mc));exact Kd.R_mono HO336.out (fun _ hk=>trivial)⟩,⟨by(try simp only [qd]);(with_reducible repeat(first|refine Mg ?_ _|refine Mb ?_|refine Mf ?_ _));exact qb.out⟩,⟨by(try simp only [qd]);(with_reducible repeat(first|refine Mg ?_ _|refine Mb ?_|refine Mf ?_ _));exact qa.out⟩,⟨by repeat(first|(with_reducible first|exact HB.out|apply Mk|apply Me|apply Mh|refine Md ?_ qk.out|refine Md ?_ ql.out)|exact HB.out)⟩⟩
          case round=>
           clear H'
           try clear c1
           try clear c2
           try clear p2
           try clear c3
           try clear p3
           try clear q3
           try clear hx3
           try clear c4
           try clear p4
           try clear q4
           try clear hx4
           try clear hf4
           try clear c5
           try clear c6
           try clear p6
           try clear c7
           try clear c8
           try clear c10
           try clear c14
           try clear c18
           try clear c22
           try clear c25
           try clear c25b0
           try clear c29
           try clear p33
           try clear q33
           try clear hx33
           try clear c37
           try clear c37b0
           try clear c38
           try clear c38b0
           try clear c39
           try clear c39b0
           try clear c40
           try clear c40b0
           try clear p41
           try clear q41
           try clear hx41
           try clear hf41
           try clear yk
           try clear yl
           try clear ym
           try clear yn
           try clear yo
           try clear yp
           try clear yq
           try clear yr
           try clear ys
           try clear yt
           try clear yu
           try clear yv
           try clear zk
           try clear zl
           try clear zm
           try clear hcz30_0
           try clear hcz30_1
           try clear hcz30_2
           try clear hcz31_0
           try clear hcz31_1
           try clear hcz31_2
           try clear yw
           try clear yx
           try clear yy
           try clear yz
           try clear za
           try clear zb
           try clear zc
           try clear zd
           try clear ze
           try clear zf
           try clear zg
           try clear zh
           try clear zn
           try clear zo
           try clear zp
           try clear hfz30_0
           try clear hfz30_1
           try clear hfz30_2
           try clear hfz31_0
           try clear hfz31_1
           try clear hfz31_2
           try clear zi
           try clear zq
           try clear hx41_0
           try clear p2
           try clear p331
           try clear p332
           try clear p41
           try clear q331
           try clear q332
           try clear q41
           obtain⟨qi,qo,qc,rfl,rfl,HA,HK4,qf,qe,qb,qa,HB⟩:=hrel
           have qm:=(Mo qe.out).1
           rw [qm] at qe
           (try simp only [qm])
           (try simp only [qm] at qb)
           (try simp only [qm] at qa)
           (try simp only [qm] at qf)
           cases gk with
           | zero => exact absurd HA.out (by simp [impl_Encode.l2])
           | succ k4 =>
            have H:=HA.out
            clear HA
            simp only [impl_Encode.l2] at H
            by_cases c48:qc < (yj.length:Int)
            ·rw [if_pos c48] at H
             have c48b0:decide (qc < (yj.length:Int))=true:=decide_eq_true c48
             clear c48
             by_cases c49:0≤qc
             ·rw [if_pos c49] at H
              have c49b0:decide (0≤qc)=true:=decide_eq_true c49
              clear c49
              by_cases c50:qc < (qi.length:Int)
              ·rw [if_pos c50] at H
               have c50b0:decide (qc < (qi.length:Int))=true:=decide_eq_true c50
               clear c50
               replace H:=Option.bind_eq_some_iff.mp H
               obtain⟨zv,A510,H⟩:=H
               replace H:((some (qi.set (qc:Int).toNat zv:List Int)).bind fun qz=>(if (rd qz qc)=0 then (impl_Encode.l2 k4 a2 qy yb yc qz qo qt qn (yj.length:Int) (wrap64 (qc+1)) a0_0 a0_1 l0_2 a1_0 a1_1 l1_2) else (impl_Encode.l2 k4 a2 qy yb yc qz (wrap64 (qc+1)) qt qn (yj.length:Int) (wrap64 (qc+1)) a0_0 a0_1 l0_2 a1_0 a1_1 l1_2)))=some (r1,r2):=H
               have A51:=Ma A510
               clear A510
               obtain⟨qz,hy339⟩:∃ y_:List Int,y_=(qi.set (qc:Int).toNat zv):=⟨_,rfl⟩
               replace H:(if (rd qz qc)=0 then (impl_Encode.l2 k4 a2 qy yb yc qz qo qt qn (yj.length:Int) (wrap64 (qc+1)) a0_0 a0_1 l0_2 a1_0 a1_1 l1_2) else (impl_Encode.l2 k4 a2 qy yb yc qz (wrap64 (qc+1)) qt qn (yj.length:Int) (wrap64 (qc+1)) a0_0 a0_1 l0_2 a1_0 a1_1 l1_2))=some (r1,r2):=by first|(rw [hy339];with_reducible exact H)|(have zj:=(Option.bind_some _ _).symm.trans H;rw [hy339];with_reducible exact zj)|(have zj:=(Option.bind_some _ _).symm.trans H;with_reducible exact zj)|with_reducible exact H|(rw [hy339];exact H)|exact H
               have Ny339:=Ma hy339
               clear hy339
               by_cases c53:(rd qz qc)=0
               ·rw [if_pos c53] at H
                have c53b0:((rd qz qc) == 0)=true:=beq_iff_eq.mpr c53
                have c53b1:((rd qz qc) != 0)=false:=bne_eq_false_iff_eq.mpr c53
                clear c53
                have H':=Ma H
                clear H
                have p337:0≤(qc:Int):=of_decide_eq_true (by first|(with_reducible assumption)|assumption)
                have q337:qc < (qi.length:Int):=of_decide_eq_true (by first|(with_reducible assumption)|assumption)
                obtain⟨ad337,e337,zr⟩:=Kd.at_int (Mo qe.out).2.2 qc p337 q337
                cases e337
                replace p337:=eq_true p337
                replace q337:=eq_true q337
                go_wp2_with (first|((with_reducible refine gate_callee (f:=79) rfl ?_);refine goesL_ (some 81) rfl rfl Try.func79 (by kernel_rfl) rfl #[.int .i64 (rd qi qc),.int .i64 (wrap64 (16*a2))] rfl (by(try simp only [List.map_toArray,List.map_cons,List.map_nil]);first|done|rfl|(simp only [List.length_drop,List.length_take];rfl)) ?_;(with_reducible refine(impl_near.calls (rd qi qc) (wrap64 (16*a2)) zv _ A51.out).mono ?_);rintro e w' ⟨rfl,⟨nd,rfl⟩⟩;refine⟨_,rfl,?_⟩;(try(rw [drewN_self wr];generalize hq_:World.drewN wr _=wr;have qq:Aside0 (Kd.R (Kd.int .i64) 2 wr w.heap.size (fun _=>True) (.slice (some ad337) qi.length zu) qi):=⟨by rw [← hq_];exact(by(with_reducible repeat(first|apply Mi|apply Mj|apply Mc));exact qe.out)⟩;have qr:Aside0 (Kd.R (Kd.int .u8) 5 wr w.heap.size (fun _=>True) u8 qy):=⟨by rw [← hq_];exact(by(with_reducible repeat(first|apply Mi|apply Mj|apply Mc));exact qf.out)⟩;have qs:Aside0 (wr.heap[qg]? = some (.cells #[.int .i64 a0_0,.int .i64 a0_1,.slice A0_2 l0_2.length c0_2] 27 (0,0))):=⟨by rw [← hq_];exact(by(with_reducible repeat(first|refine Mg ?_ _|refine Mb ?_|refine Mf ?_ _));exact qb.out)⟩;have qw:Aside0 (wr.heap[qh]? = some (.cells #[.int .i64 a1_0,.int .i64 a1_1,.slice A1_2 l1_2.length c1_2] 27 (0,0))):=⟨by rw [← hq_];exact(by(with_reducible repeat(first|refine Mg ?_ _|refine Mb ?_|refine Mf ?_ _));exact qa.out)⟩;have yg:Aside0 (Below w.heap.size w wr):=⟨by rw [← hq_];exact(by repeat(first|(with_reducible first|exact HB.out|apply Mk|apply Me|apply Mh|refine Md ?_ qk.out|refine Md ?_ ql.out)|exact HB.out))⟩;clear qe qf qb qa HB hq_;have qe:=qq;have qf:=qr;have qb:=qs;have qa:=qw;have HB:=yg;clear qq qr qs qw yg));have p52:0≤(qc:Int):=of_decide_eq_true (by first|(with_reducible assumption)|assumption);have q52:(qc:Int) < ((qi.length:Int):Int):=of_decide_eq_true (by first|(with_reducible assumption)|assumption);obtain⟨zs,co52,eo52,gb52,gl52,cl52,HG52⟩:=Kd.R_form qe.out (by omega);(first|cases eo52|(injection eo52 with ea_ en_ ec_;(first|subst ea_|(injection ea_ with ea_;subst ea_));subst ec_;clear en_));have GB52:=Ma gb52;have GG52:=Ma HG52;clear gb52 gl52 HG52;(first|simp only [add_plain] at zr|skip);obtain⟨hx52_0,hf52_0⟩:=Kd.R_celln 0 qe.out (qc:Int) p52 q52;replace p52:=eq_true p52;replace q52:=eq_true q52;obtain⟨hy54_,hz54_⟩:=Kd.R_celln 0 qe.out (qc:Int) (of_decide_eq_true (by first|(with_reducible assumption)|assumption)) (of_decide_eq_true (by first|(with_reducible assumption)|assumption));have HP54:=Kd.R_putg qe.out (qc:Int) zv)|((with_reducible refine gate_store (t:=2) (p:=82) rfl ?_);refine store_event (t:=2) (p:=82) (v:=?vo_w55) (w1:=(wr.setCell ⟨zs,(qc:Int).toNat,none⟩ (.int .i64 zv))) ?hg ?ho ?hn ?hr ?_;(case ho=>rfl);(case hg=>rfl);(case hn=>rfl);(case hr=>first|(go_simp;done)|(go_simp;rfl));intro w55 hw;have hg:wr.grownBy w55 (some zs):=(by rw [hw];exact HP54.2);have hp_:Kd.R (Kd.int .i64) 2 w55 w.heap.size (fun _=>True) (.slice (some ⟨zs,0,none⟩) qi.length zu) qz:=(by rw [hw,Ny339.out];exact HP54.1);clear HP54;have qq:=Ma (Kd.R_over' (v:=(.slice (some ⟨zs,0,none⟩) qi.length zu)) (by(with_reducible repeat(first|apply Mi|apply Mj|apply Mc));exact qf.out) (Kd.R_typed qe.out) (by decide) hg);have qr:=Ma (hp_);have qs:=Ma (blk_grown (g:=qg) (o:=.cells #[.int .i64 a0_0,.int .i64 a0_1,.slice A0_2 l0_2.length c0_2] 27 (0,0)) (by(with_reducible repeat(first|refine Mg ?_ _|refine Mb ?_|refine Mf ?_ _));exact qb.out) hg (Kd.R_ne qe.out qb.out (by decide)));have qw:=Ma (blk_grown (g:=qh) (o:=.cells #[.int .i64 a1_0,.int .i64 a1_1,.slice A1_2 l1_2.length c1_2] 27 (0,0)) (by(with_reducible repeat(first|refine Mg ?_ _|refine Mb ?_|refine Mf ?_ _));exact qa.out) hg (Kd.R_ne qe.out qa.out (by decide)));have yg:=Ma ((by rw [hw];exact Md (HB.out) GB52.out:Below w.heap.size w w55));clear qf;clear qe;clear qb;clear qa;clear HB;have qf:=qq;have qe:=qr;have qb:=qs;have qa:=qw;have HB:=yg;clear qq qr qs qw yg;clear hg hw hp_;have p340:0≤(qc:Int):=of_decide_eq_true (by first|(with_reducible assumption)|assumption);have q340:qc < (qz.length:Int):=(by have h_:(qc:Int) < ((qi.length:Int):Int):=of_decide_eq_true (by first|(with_reducible assumption)|assumption);first|(have e_:=(Mo qe.out).1;omega)|simpa only [Ny339.out,List.length_set] using h_);have ql340:((qc:Int) < ((qi.length:Int):Int))=True:=eq_true (of_decide_eq_true (by first|(with_reducible assumption)|assumption));obtain⟨ad340,e340,ya⟩:=Kd.at_int (Mo qe.out).2.2 qc p340 q340;obtain rfl:(⟨zs,0,none⟩:Addr)=ad340:=(by injection e340);(first|simp only [add_plain] at ya|simp only [add_at] at ya|simp only [Addr.add,Nat.zero_add] at ya|skip);replace p340:=eq_true p340;replace q340:=eq_true q340))
                (try simp only [← qm])
                go_roundg k4
                case measure=>have:=HJ3.out;have:=HK2.out;have:=HK3.out;have:=HK4.out;omega
                case rel=>exact⟨(qz),(qo),(wrap64 (qc+1)),(by first|rfl|(simp;done)|(simp [*];done)),(by first|rfl|(simp;done)|(simp [*];done)),H',⟨by have:=HJ3.out;have:=HK2.out;have:=HK3.out;have:=HK4.out;omega⟩,⟨by(try simp only [qd]);(try simp only [qm]);(with_reducible repeat(first|apply Mi|apply Mj|apply Mc));exact qf.out⟩,⟨by(try simp only [qd]);(try simp only [qm]);(with_reducible repeat(first|apply Mi|apply Mj|apply Mc));exact qe.out⟩,⟨by(try simp only [qd]);(try simp only [qm]);(with_reducible repeat(first|refine Mg ?_ _|refine Mb ?_|refine Mf ?_ _));exact qb.out⟩,⟨by(try simp only [qd]);(try simp only [qm]);(with_reducible repeat(first|refine Mg ?_ _|refine Mb ?_|refine Mf ?_ _));exact qa.out⟩,⟨by repeat(first|(with_reducible first|exact HB.out|apply Mk|apply Me|apply Mh|refine Md ?_ qk.out|refine Md ?_ ql.out)|exact HB.out)⟩⟩
               ·rw [if_neg c53] at H
                have c53b0:((rd qz qc) == 0)=false:=beq_eq_false_iff_ne.mpr c53
                have c53b1:((rd qz qc) != 0)=true:=bne_iff_ne.mpr c53
                have H':=Ma H
                clear H
                have p337:0≤(qc:Int):=of_decide_eq_true (by first|(with_reducible assumption)|assumption)
                have q337:qc < (qi.length:Int):=of_decide_eq_true (by first|(with_reducible assumption)|assumption)
                obtain⟨ad337,e337,zr⟩:=Kd.at_int (Mo qe.out).2.2 qc p337 q337
                cases e337
                replace p337:=eq_true p337
                replace q337:=eq_true q337
                go_wp2_with (first|((with_reducible refine gate_callee (f:=79) rfl ?_);refine goesL_ (some 81) rfl rfl Try.func79 (by kernel_rfl) rfl #[.int .i64 (rd qi qc),.int .i64 (wrap64 (16*a2))] rfl (by(try simp only [List.map_toArray,List.map_cons,List.map_nil]);first|done|rfl|(simp only [List.length_drop,List.length_take];rfl)) ?_;(with_reducible refine(impl_near.calls (rd qi qc) (wrap64 (16*a2)) zv _ A51.out).mono ?_);rintro e w' ⟨rfl,⟨nd,rfl⟩⟩;refine⟨_,rfl,?_⟩;(try(rw [drewN_self wr];generalize hq_:World.drewN wr _=wr;have qq:Aside0 (Kd.R (Kd.int .i64) 2 wr w.heap.size (fun _=>True) (.slice (some ad337) qi.length zu) qi):=⟨by rw [← hq_];exact(by(with_reducible repeat(first|apply Mi|apply Mj|apply Mc));exact qe.out)⟩;have qr:Aside0 (Kd.R (Kd.int .u8) 5 wr w.heap.size (fun _=>True) u8 qy):=⟨by rw [← hq_];exact(by(with_reducible repeat(first|apply Mi|apply Mj|apply Mc));exact qf.out)⟩;have qs:Aside0 (wr.heap[qg]? = some (.cells #[.int .i64 a0_0,.int .i64 a0_1,.slice A0_2 l0_2.length c0_2] 27 (0,0))):=⟨by rw [← hq_];exact(by(with_reducible repeat(first|refine Mg ?_ _|refine Mb ?_|refine Mf ?_ _));exact qb.out)⟩;have qw:Aside0 (wr.heap[qh]? = some (.cells #[.int .i64 a1_0,.int .i64 a1_1,.slice A1_2 l1_2.length c1_2] 27 (0,0))):=⟨by rw [← hq_];exact(by(with_reducible repeat(first|refine Mg ?_ _|refine Mb ?_|refine Mf ?_ _));exact qa.out)⟩;have yg:Aside0 (Below w.heap.size w wr):=⟨by rw [← hq_];exact(by repeat(first|(with_reducible first|exact HB.out|apply Mk|apply Me|apply Mh|refine Md ?_ qk.out|refine Md ?_ ql.out)|exact HB.out))⟩;clear qe qf qb qa HB hq_;have qe:=qq;have qf:=qr;have qb:=qs;have qa:=qw;have HB:=yg;clear qq qr qs qw yg));have p52:0≤(qc:Int):=of_decide_eq_true (by first|(with_reducible assumption)|assumption);have q52:(qc:Int) < ((qi.length:Int):Int):=of_decide_eq_true (by first|(with_reducible assumption)|assumption);obtain⟨zs,co52,eo52,gb52,gl52,cl52,HG52⟩:=Kd.R_form qe.out (by omega);(first|cases eo52|(injection eo52 with ea_ en_ ec_;(first|subst ea_|(injection ea_ with ea_;subst ea_));subst ec_;clear en_));have GB52:=Ma gb52;have GG52:=Ma HG52;clear gb52 gl52 HG52;(first|simp only [add_plain] at zr|skip);obtain⟨hx52_0,hf52_0⟩:=Kd.R_celln 0 qe.out (qc:Int) p52 q52;replace p52:=eq_true p52;replace q52:=eq_true q52;obtain⟨hy56_,hz56_⟩:=Kd.R_celln 0 qe.out (qc:Int) (of_decide_eq_true (by first|(with_reducible assumption)|assumption)) (of_decide_eq_true (by first|(with_reducible assumption)|assumption));have HP56:=Kd.R_putg qe.out (qc:Int) zv)|((with_reducible refine gate_store (t:=2) (p:=82) rfl ?_);refine store_event (t:=2) (p:=82) (v:=?vo_w57) (w1:=(wr.setCell ⟨zs,(qc:Int).toNat,none⟩ (.int .i64 zv))) ?hg ?ho ?hn ?hr ?_;(case ho=>rfl);(case hg=>rfl);(case hn=>rfl);(case hr=>first|(go_simp;done)|(go_simp;rfl));intro w57 hw;have hg:wr.grownBy w57 (some zs):=(by rw [hw];exact HP56.2);have hp_:Kd.R (Kd.int .i64) 2 w57 w.heap.size (fun _=>True) (.slice (some ⟨zs,0,none⟩) qi.length zu) qz:=(by rw [hw,Ny339.out];exact HP56.1);clear HP56;have qq:=Ma (Kd.R_over' (v:=(.slice (some ⟨zs,0,none⟩) qi.length zu)) (by(with_reducible repeat(first|apply Mi|apply Mj|apply Mc));exact qf.out) (Kd.R_typed qe.out) (by decide) hg);have qr:=Ma (hp_);have qs:=Ma (blk_grown (g:=qg) (o:=.cells #[.int .i64 a0_0,.int .i64 a0_1,.slice A0_2 l0_2.length c0_2] 27 (0,0)) (by(with_reducible repeat(first|refine Mg ?_ _|refine Mb ?_|refine Mf ?_ _));exact qb.out) hg (Kd.R_ne qe.out qb.out (by decide)));have qw:=Ma (blk_grown (g:=qh) (o:=.cells #[.int .i64 a1_0,.int .i64 a1_1,.slice A1_2 l1_2.length c1_2] 27 (0,0)) (by(with_reducible repeat(first|refine Mg ?_ _|refine Mb ?_|refine Mf ?_ _));exact qa.out) hg (Kd.R_ne qe.out qa.out (by decide)));have yg:=Ma ((by rw [hw];exact Md (HB.out) GB52.out:Below w.heap.size w w57));clear qf;clear qe;clear qb;clear qa;clear HB;have qf:=qq;have qe:=qr;have qb:=qs;have qa:=qw;have HB:=yg;clear qq qr qs qw yg;clear hg hw hp_;have p340:0≤(qc:Int):=of_decide_eq_true (by first|(with_reducible assumption)|assumption);have q340:qc < (qz.length:Int):=(by have h_:(qc:Int) < ((qi.length:Int):Int):=of_decide_eq_true (by first|(with_reducible assumption)|assumption);first|(have e_:=(Mo qe.out).1;omega)|simpa only [Ny339.out,List.length_set] using h_);have ql340:((qc:Int) < ((qi.length:Int):Int))=True:=eq_true (of_decide_eq_true (by first|(with_reducible assumption)|assumption));obtain⟨ad340,e340,ya⟩:=Kd.at_int (Mo qe.out).2.2 qc p340 q340;obtain rfl:(⟨zs,0,none⟩:Addr)=ad340:=(by injection e340);(first|simp only [add_plain] at ya|simp only [add_at] at ya|simp only [Addr.add,Nat.zero_add] at ya|skip);replace p340:=eq_true p340;replace q340:=eq_true q340))
                (try simp only [← qm])
                go_roundg k4
                case measure=>have:=HJ3.out;have:=HK2.out;have:=HK3.out;have:=HK4.out;omega
                case rel=>exact⟨(qz),(wrap64 (qc+1)),(wrap64 (qc+1)),(by first|rfl|(simp;done)|(simp [*];done)),(by first|rfl|(simp;done)|(simp [*];done)),H',⟨by have:=HJ3.out;have:=HK2.out;have:=HK3.out;have:=HK4.out;omega⟩,⟨by(try simp only [qd]);(try simp only [qm]);(with_reducible repeat(first|apply Mi|apply Mj|apply Mc));exact qf.out⟩,⟨by(try simp only [qd]);(try simp only [qm]);(with_reducible repeat(first|apply Mi|apply Mj|apply Mc));exact qe.out⟩,⟨by(try simp only [qd]);(try simp only [qm]);(with_reducible repeat(first|refine Mg ?_ _|refine Mb ?_|refine Mf ?_ _));exact qb.out⟩,⟨by(try simp only [qd]);(try simp only [qm]);(with_reducible repeat(first|refine Mg ?_ _|refine Mb ?_|refine Mf ?_ _));exact qa.out⟩,⟨by repeat(first|(with_reducible first|exact HB.out|apply Mk|apply Me|apply Mh|refine Md ?_ qk.out|refine Md ?_ ql.out)|exact HB.out)⟩⟩
              ·rw [if_neg c50] at H
               exact absurd H (by simp)
             ·rw [if_neg c49] at H
              exact absurd H (by simp)
            ·rw [if_neg c48] at H
             have c48b0:decide (qc < (yj.length:Int))=false:=decide_eq_false c48
             have c48b1:decide (qc < (qi.length:Int))=false:=by rw [← qm];exact c48b0
             clear c48
             obtain⟨y341,hy341⟩:∃ y_:List Int,y_=(([(wrap64 ((wrap64 ((wrap64 (8*(wrap64 (yc+2))))+yb))+2)) % 256,(qo) % 256]:List Int)):=⟨_,rfl⟩
             replace H:(if qy.length+y341.length < 140737488355328 then (if 0≤qo then (if qo≤(qi.length:Int) then ((some (qi.take (qo:Int).toNat:List Int)).bind fun qv=>(impl_Encode.l3 k4 a2 (qy ++ y341) qt qn qv (qv.length:Int) 0 a0_0 a0_1 l0_2 a1_0 a1_1 l1_2)) else (none)) else (none)) else (none))=some (r1,r2):=by first|(rw [hy341];with_reducible exact H)|(have zj:=(Option.bind_some _ _).symm.trans H;rw [hy341];with_reducible exact zj)|(have zj:=(Option.bind_some _ _).symm.trans H;with_reducible exact zj)|with_reducible exact H|(rw [hy341];exact H)|exact H
             have Ny341:=Ma hy341
             clear hy341
             by_cases c58:qy.length+y341.length < 140737488355328
             ·rw [if_pos c58] at H
              have LMc58:=Ma c58
              clear c58
              obtain⟨y344,hy344⟩:∃ y_:List Int,y_=(qy ++ y341):=⟨_,rfl⟩
              replace H:(if 0≤qo then (if qo≤(qi.length:Int) then ((some (qi.take (qo:Int).toNat:List Int)).bind fun qv=>(impl_Encode.l3 k4 a2 y344 qt qn qv (qv.length:Int) 0 a0_0 a0_1 l0_2 a1_0 a1_1 l1_2)) else (none)) else (none))=some (r1,r2):=by first|(rw [hy344];with_reducible exact H)|(have zj:=(Option.bind_some _ _).symm.trans H;rw [hy344];with_reducible exact zj)|(have zj:=(Option.bind_some _ _).symm.trans H;with_reducible exact zj)|with_reducible exact H|(rw [hy344];exact H)|exact H
              have Ny344:=Ma hy344
              clear hy344
              by_cases c59:0≤qo
              ·rw [if_pos c59] at H
               have c59b0:=eq_true c59
               have c59b1:decide (0≤qo)=true:=decide_eq_true c59
               clear c59
               by_cases c60:qo≤(qi.length:Int)
               ·rw [if_pos c60] at H
                have c60b0:=eq_true c60
                have c60b1:decide (qo≤(qi.length:Int))=true:=decide_eq_true c60
                clear c60
                obtain⟨qv,hy347⟩:∃ y_:List Int,y_=(qi.take (qo:Int).toNat):=⟨_,rfl⟩
                replace H:(impl_Encode.l3 k4 a2 y344 qt qn qv (qv.length:Int) 0 a0_0 a0_1 l0_2 a1_0 a1_1 l1_2)=some (r1,r2):=by first|(rw [hy347];with_reducible exact H)|(have zj:=(Option.bind_some _ _).symm.trans H;rw [hy347];with_reducible exact zj)|(have zj:=(Option.bind_some _ _).symm.trans H;with_reducible exact zj)|with_reducible exact H|(rw [hy347];exact H)|exact H
                have Ny347:=Ma hy347
                clear hy347
                have H':=Ma H
                clear H
                go_wp2_with (first|((with_reducible refine gate_dst (N:=101) rfl ?_);refine Kd.R_lit (Kd.int .u8) _ 5 ?hg (N:=101) ?hd (xs:=([(wrap64 ((wrap64 ((wrap64 (8*(wrap64 (yc+2))))+yb))+2)) % 256,(qo) % 256]:List Int)) (inner:=[.int .u8 ((wrap64 ((wrap64 ((wrap64 (8*(wrap64 (yc+2))))+yb))+2)) % 256),.int .u8 ((qo) % 256)]) (ok:=fun _=>True) (okp:=fun _=>True) ?hr ?hp (fun _ hk=>hk) trivial (Below.refl _ _) (Nat.le_refl _) (by simp) ?_;(case hd=>rfl);(case hg=>rfl);(case hr=>first|(go_simp;done)|(go_simp;rfl));(case hp=>exact(Reps.one (show Kd.M (Kd.int .u8) _ _ _ ((wrap64 ((wrap64 ((wrap64 (8*(wrap64 (yc+2))))+yb))+2)) % 256) [.int .u8 ((wrap64 ((wrap64 ((wrap64 (8*(wrap64 (yc+2))))+yb))+2)) % 256)] from rfl) (Reps.one (show Kd.M (Kd.int .u8) _ _ _ ((qo) % 256) [.int .u8 ((qo) % 256)] from rfl) (Reps.none _ _))));intro v342 w61 ho62 hb hg_ hnew_;clear hg_ hnew_;(first|rw [← Ny341.out] at ho62|(simp only [Int.reduceToNat] at ho62;rw [← Ny341.out] at ho62));have qq:=Ma (Kd.R_elder' (by(with_reducible repeat(first|apply Mi|apply Mj|apply Mc));exact qf.out) (Kd.R_base ho62) hb);have qr:=Ma (Kd.R_below (by(with_reducible repeat(first|apply Mi|apply Mj|apply Mc));exact qe.out) hb);have qs:=Ma (Kd.R_lower (Kd.R_new' ho62 (Kd.R_lt (by(with_reducible repeat(first|apply Mi|apply Mj|apply Mc));exact qf.out))) (below_size (by repeat(first|(with_reducible first|exact HB.out|apply Mk|apply Me|apply Mh|refine Md ?_ qk.out|refine Md ?_ ql.out)|exact HB.out))));have qw:=Ma (Mn (g:=qg) (o:=.cells #[.int .i64 a0_0,.int .i64 a0_1,.slice A0_2 l0_2.length c0_2] 27 (0,0)) (by(with_reducible repeat(first|refine Mg ?_ _|refine Mb ?_|refine Mf ?_ _));exact qb.out) hb);have yg:=Ma (Mn (g:=qh) (o:=.cells #[.int .i64 a1_0,.int .i64 a1_1,.slice A1_2 l1_2.length c1_2] 27 (0,0)) (by(with_reducible repeat(first|refine Mg ?_ _|refine Mb ?_|refine Mf ?_ _));exact qa.out) hb);have n5_:=Ma (below_step (by repeat(first|(with_reducible first|exact HB.out|apply Mk|apply Me|apply Mh|refine Md ?_ qk.out|refine Md ?_ ql.out)|exact HB.out)) hb);clear qf;clear qe;clear qb;clear qa;clear HB;have qf:=qq;have qe:=qr;have zy:=qs;have qb:=qw;have qa:=yg;have HB:=n5_;clear qq qr qs qw yg n5_;clear hb ho62;obtain⟨Ao64,co64,eo64⟩:=Kd.R_slice zy.out;subst eo64)|((with_reducible refine gate_builtin (b:=.append) (xs:=#[.tmp 91,.tmp 101]) rfl ?_);at_builtin;refine Kd.R_append_rows (Kd.int .u8) (w0:=w) w.heap.size rfl (.tmp 91) (.tmp 101) 37 5 (.int .u8 0) 1 rfl Try.underlying37 info5 rfl (by decide) (by omega) u8 qy y341 _ _ _ (fun k_=>some k_≠(.slice Ao64 y341.length co64:Value).ownBlock) (fun _=>False) rfl rfl ?aO ?aR (fun _ _ h=>h) (fun _ h=>h.elim) ?aF ?aB ?aS ?aL ?_;(case aR=>repeat(first|exact(Mo zy.out).2.2|(with_reducible refine Kd.C_alloc ?_ _)|(with_reducible refine Kd.C_drewN ?_ _)|(with_reducible refine Kd.C_drew ?_)));(case aB=>exact(by repeat(first|(with_reducible first|exact HB.out|apply Mk|apply Me|apply Mh|refine Md ?_ qk.out|refine Md ?_ ql.out)|exact HB.out)));(case aF=>exact(fun k_ hk=>Kd.fresh' (Kd.R_lt (by(with_reducible repeat(first|apply Mi|apply Mj|apply Mc));exact zy.out)) k_ hk));(case aO=>exact(by(with_reducible repeat(first|apply Mi|apply Mj|apply Mc));exact Kd.R_mono qf.out (fun _ hk=>hk.2)));(case aS=>exact(below_size (by repeat(first|(with_reducible first|exact HB.out|apply Mk|apply Me|apply Mh|refine Md ?_ qk.out|refine Md ?_ ql.out)|exact HB.out))));(case aL=>have:=LMc58.out;omega);intro v345 w63 ho hb hg hat;rw [← Ny344.out] at ho;have qq:=Ma (Kd.R_over' (by(with_reducible repeat(first|apply Mi|apply Mj|apply Mc));exact qe.out) (Kd.R_typed (by(with_reducible repeat(first|apply Mi|apply Mj|apply Mc));exact qf.out)) (by decide) hg);have qr:=Ma (blk_grown (g:=qg) (o:=.cells #[.int .i64 a0_0,.int .i64 a0_1,.slice A0_2 l0_2.length c0_2] 27 (0,0)) (by(with_reducible repeat(first|refine Mg ?_ _|refine Mb ?_|refine Mf ?_ _));exact qb.out) hg (Kd.R_ne qf.out qb.out (by decide)));have qs:=Ma (blk_grown (g:=qh) (o:=.cells #[.int .i64 a1_0,.int .i64 a1_1,.slice A1_2 l1_2.length c1_2] 27 (0,0)) (by(with_reducible repeat(first|refine Mg ?_ _|refine Mb ?_|refine Mf ?_ _));exact qa.out) hg (Kd.R_ne qf.out qa.out (by decide)));have qw:=Ma (Kd.R_after (ok:=(fun _=>True)) (by(with_reducible repeat(first|apply Mi|apply Mj|apply Mc));exact zy.out) hg hat);have yg:=Ma (hb);have n5_:=Ma (ho);clear qe;clear qb;clear qa;clear zy;clear HB;clear qf;have qe:=qq;have qb:=qr;have qa:=qs;have zy:=qw;have HB:=yg;have HO346:=n5_;clear qq qr qs qw yg n5_;clear ho hb hg hat;have q65:(qo:Int)≤((qi.length:Int):Int):=of_decide_eq_true (by first|(with_reducible assumption)|assumption);obtain⟨i065,hi065,_,hsz65,_⟩:=info_parts info2;have hroom65:qi.length≤zu:=(Mo qe.out).2.1;have hC65:Kd.C (Kd.int .i64) _ Ao47 qi.length qi:=(Mo qe.out).2.2;have hcut65:=cut_to (P:=Try.prog) 22 2 .i64 Try.underlying22 hi065 Ao47 qi.length zu qo (of_decide_eq_true (by first|(with_reducible assumption)|assumption)) q65 hroom65;have hr65:=Kd.C_take (m:=(qo:Int).toNat) hC65 (by omega);have hy65:qv.length=(qo:Int).toNat:=(by rw [Ny347.out,List.length_take];omega);rw [← Ny347.out] at hr65;rw [← hy65] at hcut65;have HR350:=Ma hr65;have HC350:=Ma (show qv.length≤zu from by omega);clear hr65 hC65 hroom65 hi065 hsz65;have KY65:=Ma hy65;clear hy65;have KL65:=Ma (show(qo:Int).toNat≤qi.length from by omega);replace q65:=eq_true q65))
                go_loopg [8,107] k4 (fun kq v8 v107 w'=>∃ (x8_5:List Int) (qp:Int),v107=.int .i64 qp∧Aside0 (impl_Encode.l3 kq a2 x8_5 qt qn qv (qv.length:Int) qp a0_0 a0_1 l0_2 a1_0 a1_1 l1_2=some (r1,r2))∧Aside0 (kq≤k4)∧Aside0 (Kd.R (Kd.int .u8) 5 w' w.heap.size (fun _=>True) v8 x8_5)∧Aside0 (w'.heap[qg]? = some (.cells #[.int .i64 a0_0,.int .i64 a0_1,(.slice A0_2 l0_2.length c0_2)] 27 (0,0)))∧Aside0 (w'.heap[qh]? = some (.cells #[.int .i64 a1_0,.int .i64 a1_1,(.slice A1_2 l1_2.length c1_2)] 27 (0,0)))∧Aside0 (Below w.heap.size w w')∧Aside0 (Kd.R (Kd.int .i64) 2 w' w.heap.size (fun _=>True) (.slice Ao47 qi.length zu) qi))
                case atStart=>exact⟨(y344),(0),(by first|rfl|(simp;done)|(simp [*];done)),H',⟨Nat.le_refl _⟩,⟨by(try simp only [qd]);(try simp only [qm]);(with_reducible repeat(first|apply Mi|apply Mj|apply Mc));exact Kd.R_mono HO346.out (fun _ hk=>trivial)⟩,⟨by(try simp only [qd]);(try simp only [qm]);(with_reducible repeat(first|refine Mg ?_ _|refine Mb ?_|refine Mf ?_ _));exact qb.out⟩,⟨by(try simp only [qd]);(try simp only [qm]);(with_reducible repeat(first|refine Mg ?_ _|refine Mb ?_|refine Mf ?_ _));exact qa.out⟩,⟨by repeat(first|(with_reducible first|exact HB.out|apply Mk|apply Me|apply Mh|refine Md ?_ qk.out|refine Md ?_ ql.out)|exact HB.out)⟩,⟨by(try simp only [qd]);(try simp only [qm]);(with_reducible repeat(first|apply Mi|apply Mj|apply Mc));exact qe.out⟩⟩
                case round=>
                 clear H'
                 try clear c1
                 try clear c2
                 try clear p2
                 try clear c3
                 try clear p3
                 try clear q3
                 try clear hx3
                 try clear c4
                 try clear p4
                 try clear q4
                 try clear hx4
                 try clear hf4
                 try clear c5
                 try clear p5
                 try clear q5
                 try clear hx5
                 try clear hf5
                 try clear c6
                 try clear p6
                 try clear q6
                 try clear c7
                 try clear c8
                 try clear c10
                 try clear c14
                 try clear c18
                 try clear c22
                 try clear c25
                 try clear c25b0
                 try clear c29
                 try clear p33
                 try clear q33
                 try clear hx33
                 try clear p34
                 try clear q34
                 try clear hx34
                 try clear c37
                 try clear c37b0
                 try clear c38
                 try clear c38b0
                 try clear c39
                 try clear c39b0
                 try clear c40
                 try clear c40b0
                 try clear p41
                 try clear q41
                 try clear hx41
                 try clear hf41
                 try clear c48
                 try clear c48b0
                 try clear c49
                 try clear c49b0
                 try clear c50
                 try clear c50b0
                 try clear p52
                 try clear q52
                 try clear hx52
                 try clear hf52
                 try clear c53
                 try clear c53b0
                 try clear c53b1
                 try clear c56
                 try clear c58
                 try clear c59
                 try clear c59b0
                 try clear c59b1
                 try clear c60
                 try clear c60b0
                 try clear c60b1
                 try clear p64
                 try clear q65
                 try clear yk
                 try clear yl
                 try clear ym
                 try clear yn
                 try clear yo
                 try clear yp
                 try clear yq
                 try clear yr
                 try clear ys
                 try clear yt
                 try clear yu
                 try clear yv
                 try clear zk
                 try clear zl
                 try clear zm
                 try clear hcz30_0
                 try clear hcz30_1
                 try clear hcz30_2
                 try clear hcz31_0
                 try clear hcz31_1
                 try clear hcz31_2
                 try clear yw
                 try clear yx
                 try clear yy
                 try clear yz
                 try clear za
                 try clear zb
                 try clear zc
                 try clear zd
                 try clear ze
                 try clear zf
                 try clear zg
                 try clear zh
                 try clear zn
                 try clear zo
                 try clear zp
                 try clear hfz30_0
                 try clear hfz30_1
                 try clear hfz30_2
                 try clear hfz31_0
                 try clear hfz31_1
                 try clear hfz31_2
                 try clear zi
                 try clear zq
                 try clear zr
                 try clear ya
                 try clear hx41_0
                 try clear hx52_0
                 try clear p2
                 try clear p3
                 try clear p33
                 try clear p331
                 try clear p332
                 try clear p337
                 try clear p340
                 try clear p4
                 try clear p41
                 try clear p52
                 try clear p6
                 try clear q3
                 try clear q33
                 try clear q331
                 try clear q332
                 try clear q337
                 try clear q340
                 try clear q4
                 try clear q41
                 try clear q52
                 try clear q65
                 obtain⟨x8_5,qp,rfl,HA,HK5,qf,qb,qa,HB,qe9⟩:=hrel
                 cases gk with
                 | zero => exact absurd HA.out (by simp [impl_Encode.l3])
                 | succ k5 =>
                  have H:=HA.out
                  clear HA
                  simp only [impl_Encode.l3] at H
                  by_cases c66:qp < (qv.length:Int)
                  ·rw [if_pos c66] at H
                   have c66b0:decide (qp < (qv.length:Int))=true:=decide_eq_true c66
                   clear c66
                   by_cases c67:0≤qp
                   ·rw [if_pos c67] at H
                    have c67b0:decide (0≤qp)=true:=decide_eq_true c67
                    clear c67
                    by_cases c68:qp < (qv.length:Int)
                    ·rw [if_pos c68] at H
                     have c68b0:decide (qp < (qv.length:Int))=true:=decide_eq_true c68
                     clear c68
                     replace H:=Option.bind_eq_some_iff.mp H
                     obtain⟨zw,A690,H⟩:=H
                     replace H:(if x8_5.length+zw.length < 140737488355328 then (impl_Encode.l3 k5 a2 (x8_5 ++ zw) qt qn qv (qv.length:Int) (wrap64 (qp+1)) a0_0 a0_1 l0_2 a1_0 a1_1 l1_2) else (none))=some (r1,r2):=H
                     have A69:=Ma A690
                     clear A690
                     by_cases c70:x8_5.length+zw.length < 140737488355328
                     ·rw [if_pos c70] at H
                      have LMc70:=Ma c70
                      clear c70
                      obtain⟨y355,hy355⟩:∃ y_:List Int,y_=(x8_5 ++ zw):=⟨_,rfl⟩
                      replace H:(impl_Encode.l3 k5 a2 y355 qt qn qv (qv.length:Int) (wrap64 (qp+1)) a0_0 a0_1 l0_2 a1_0 a1_1 l1_2)=some (r1,r2):=by first|(rw [hy355];with_reducible exact H)|(have zj:=(Option.bind_some _ _).symm.trans H;rw [hy355];with_reducible exact zj)|(have zj:=(Option.bind_some _ _).symm.trans H;with_reducible exact zj)|with_reducible exact H|(rw [hy355];exact H)|exact H
                      have Ny355:=Ma hy355
                      clear hy355
                      have H':=Ma H
                      clear H
                      have p351:0≤(qp:Int):=of_decide_eq_true (by first|(with_reducible assumption)|assumption)
                      have q351:qp < (qv.length:Int):=of_decide_eq_true (by first|(with_reducible assumption)|assumption)
                      have HR9:=Kd.C_take (m:=qo.toNat) (Mo qe9.out).2.2 KL65.out
                      rw [← Ny347.out] at HR9
                      obtain⟨ad351,e351,hx351_0⟩:=Kd.at_int HR9 qp p351 q351
                      cases e351
                      clear HR9
                      replace p351:=eq_true p351
                      replace q351:=eq_true q351
                      go_wp2_with (first|((with_reducible refine gate_callee (f:=80) rfl ?_);refine goesL_ (some 113) rfl rfl Try.func80 (by kernel_rfl) rfl #[.int .i64 (rd qv qp)] rfl (by(try simp only [List.map_toArray,List.map_cons,List.map_nil]);first|done|rfl|(simp only [List.length_drop,List.length_take];rfl)) ?_;(with_reducible refine(impl_levelBytes.calls (rd qv qp) zw _ A69.out).mono ?_);rintro e w71 ⟨v353,rfl,ho0,hb⟩;refine⟨_,rfl,?_⟩;have q9n:=Ma (Kd.R_below (by(with_reducible repeat(first|apply Mi|apply Mj|apply Mc));exact qe9.out) hb);clear qe9;have qe9:=q9n;clear q9n;have qq:=Ma (Kd.R_elder' (by(with_reducible repeat(first|apply Mi|apply Mj|apply Mc));exact qf.out) (Kd.R_base ho0) hb);have qr:=Ma (Kd.R_lower (Kd.R_new' ho0 (Kd.R_lt (by(with_reducible repeat(first|apply Mi|apply Mj|apply Mc));exact qf.out))) (below_size (by repeat(first|(with_reducible first|exact HB.out|apply Mk|apply Me|apply Mh|refine Md ?_ qk.out|refine Md ?_ ql.out)|exact HB.out))));have qs:=Ma (Mn (g:=qg) (o:=.cells #[.int .i64 a0_0,.int .i64 a0_1,.slice A0_2 l0_2.length c0_2] 27 (0,0)) (by(with_reducible repeat(first|refine Mg ?_ _|refine Mb ?_|refine Mf ?_ _));exact qb.out) hb);have qw:=Ma (Mn (g:=qh) (o:=.cells #[.int .i64 a1_0,.int .i64 a1_1,.slice A1_2 l1_2.length c1_2] 27 (0,0)) (by(with_reducible repeat(first|refine Mg ?_ _|refine Mb ?_|refine Mf ?_ _));exact qa.out) hb);have yg:=Ma (below_step (by repeat(first|(with_reducible first|exact HB.out|apply Mk|apply Me|apply Mh|refine Md ?_ qk.out|refine Md ?_ ql.out)|exact HB.out)) hb);clear qf;clear qb;clear qa;clear HB;have qf:=qq;have zz:=qr;have qb:=qs;have qa:=qw;have HB:=yg;clear qq qr qs qw yg;(try clear hb);(try clear hb2);(try clear hk);(try clear hi);(try clear ho0);obtain⟨Ao73,co73,eo73⟩:=Kd.R_slice zz.out;subst eo73)|((with_reducible refine gate_builtin (b:=.append) (xs:=#[.tmp 111,.tmp 113]) rfl ?_);at_builtin;refine Kd.R_append_rows (Kd.int .u8) (w0:=w) w.heap.size rfl (.tmp 111) (.tmp 113) 37 5 (.int .u8 0) 1 rfl Try.underlying37 info5 rfl (by decide) (by omega) u8 x8_5 zw _ _ _ (fun k_=>some k_≠(.slice Ao73 zw.length co73:Value).ownBlock) (fun _=>False) rfl rfl ?aO ?aR (fun _ _ h=>h) (fun _ h=>h.elim) ?aF ?aB ?aS ?aL ?_;(case aR=>repeat(first|exact(Mo zz.out).2.2|(with_reducible refine Kd.C_alloc ?_ _)|(with_reducible refine Kd.C_drewN ?_ _)|(with_reducible refine Kd.C_drew ?_)));(case aB=>exact(by repeat(first|(with_reducible first|exact HB.out|apply Mk|apply Me|apply Mh|refine Md ?_ qk.out|refine Md ?_ ql.out)|exact HB.out)));(case aF=>exact(fun k_ hk=>Kd.fresh' (Kd.R_lt (by(with_reducible repeat(first|apply Mi|apply Mj|apply Mc));exact zz.out)) k_ hk));(case aO=>exact(by(with_reducible repeat(first|apply Mi|apply Mj|apply Mc));exact Kd.R_mono qf.out (fun _ hk=>hk.2)));(case aS=>exact(below_size (by repeat(first|(with_reducible first|exact HB.out|apply Mk|apply Me|apply Mh|refine Md ?_ qk.out|refine Md ?_ ql.out)|exact HB.out))));(case aL=>have:=LMc70.out;omega);intro v356 w72 ho hb hg hat;have q9n:=Ma (Kd.R_over' (by(with_reducible repeat(first|apply Mi|apply Mj|apply Mc));exact qe9.out) (Kd.R_typed (by(with_reducible repeat(first|apply Mi|apply Mj|apply Mc));exact qf.out)) (by decide) hg);clear qe9;have qe9:=q9n;clear q9n;rw [← Ny355.out] at ho;have qq:=Ma (blk_grown (g:=qg) (o:=.cells #[.int .i64 a0_0,.int .i64 a0_1,.slice A0_2 l0_2.length c0_2] 27 (0,0)) (by(with_reducible repeat(first|refine Mg ?_ _|refine Mb ?_|refine Mf ?_ _));exact qb.out) hg (Kd.R_ne qf.out qb.out (by decide)));have qr:=Ma (blk_grown (g:=qh) (o:=.cells #[.int .i64 a1_0,.int .i64 a1_1,.slice A1_2 l1_2.length c1_2] 27 (0,0)) (by(with_reducible repeat(first|refine Mg ?_ _|refine Mb ?_|refine Mf ?_ _));exact qa.out) hg (Kd.R_ne qf.out qa.out (by decide)));have qs:=Ma (Kd.R_after (ok:=(fun _=>True)) (by(with_reducible repeat(first|apply Mi|apply Mj|apply Mc));exact zz.out) hg hat);have qw:=Ma (hb);have yg:=Ma (ho);clear qb;clear qa;clear zz;clear HB;clear qf;have qb:=qq;have qa:=qr;have zz:=qs;have HB:=qw;have HO357:=yg;clear qq qr qs qw yg;clear ho hb hg hat))
                      go_roundg k5
                      case measure=>have:=HJ3.out;have:=HK2.out;have:=HK3.out;have:=HK4.out;have:=HK5.out;omega
                      case rel=>exact⟨(y355),(wrap64 (qp+1)),(by first|rfl|(simp;done)|(simp [*];done)),H',⟨by have:=HJ3.out;have:=HK2.out;have:=HK3.out;have:=HK4.out;have:=HK5.out;omega⟩,⟨by(try simp only [qd]);(try simp only [qm]);(with_reducible repeat(first|apply Mi|apply Mj|apply Mc));exact Kd.R_mono HO357.out (fun _ hk=>trivial)⟩,⟨by(try simp only [qd]);(try simp only [qm]);(with_reducible repeat(first|refine Mg ?_ _|refine Mb ?_|refine Mf ?_ _));exact qb.out⟩,⟨by(try simp only [qd]);(try simp only [qm]);(with_reducible repeat(first|refine Mg ?_ _|refine Mb ?_|refine Mf ?_ _));exact qa.out⟩,⟨by repeat(first|(with_reducible first|exact HB.out|apply Mk|apply Me|apply Mh|refine Md ?_ qk.out|refine Md ?_ ql.out)|exact HB.out)⟩,⟨by(try simp only [qd]);(try simp only [qm]);(with_reducible repeat(first|apply Mi|apply Mj|apply Mc));exact qe9.out⟩⟩
                     ·rw [if_neg c70] at H
                      exact absurd H (by simp)
                    ·rw [if_neg c68] at H
                     exact absurd H (by simp)
                   ·rw [if_neg c67] at H
                    exact absurd H (by simp)
                  ·rw [if_neg c66] at H
                   have c66b0:decide (qp < (qv.length:Int))=false:=decide_eq_false c66
                   clear c66
                   have H':=Ma H
                   clear H
                   go_wp2
                   (try simp only [← qd,← qm])
                   go_roundg k5
                   case measure=>have:=HJ3.out;have:=HK2.out;have:=HK3.out;have:=HK4.out;have:=HK5.out;omega
                   case rel=>exact⟨(x8_5),(wrap64 (qn+1)),(by first|rfl|(simp;done)|(simp [*];done)),H',⟨by have:=HJ3.out;have:=HK2.out;have:=HK3.out;have:=HK4.out;have:=HK5.out;omega⟩,⟨by(try simp only [qd]);(try simp only [qm]);(with_reducible repeat(first|apply Mi|apply Mj|apply Mc));exact qf.out⟩,⟨by(try simp only [qd]);(try simp only [qm]);(with_reducible repeat(first|refine Mg ?_ _|refine Mb ?_|refine Mf ?_ _));exact qb.out⟩,⟨by(try simp only [qd]);(try simp only [qm]);(with_reducible repeat(first|refine Mg ?_ _|refine Mb ?_|refine Mf ?_ _));exact qa.out⟩,⟨by repeat(first|(with_reducible first|exact HB.out|apply Mk|apply Me|apply Mh|refine Md ?_ qk.out|refine Md ?_ ql.out)|exact HB.out)⟩⟩
               ·rw [if_neg c60] at H
                exact absurd H (by simp)
              ·rw [if_neg c59] at H
               exact absurd H (by simp)
             ·rw [if_neg c58] at H
              exact absurd H (by simp)
      ·rw [if_neg c25] at H
       have c25b0:decide (qn < qt)=false:=decide_eq_false c25
       clear c25
       simp only [Option.some.injEq,Prod.mk.injEq] at H
       obtain⟨rfl,rfl⟩:=H
       go_wp2
       go_ret2
       exact⟨_,by first|rfl|(simp [errW_none,errW_some] <;> rfl)|(simp [*,errW_none,errW_some] <;> rfl),by(with_reducible repeat(first|apply Mi|apply Mj|apply Mc));exact qf.out,by repeat(first|(with_reducible first|exact HB.out|apply Mk|apply Me|apply Mh|refine Md ?_ qk.out|refine Md ?_ ql.out)|exact HB.out)⟩

end Go.Proofs.Ytbdnpfjjaokdbaa.HFnCoded
