-- Laid by myprint.py, a program of this repo, out of the kit's printer and this repo's own texts (wip/hand).
import Derived.Test.YtbdnpfjjaokdbaaHFnMotionx0
import Derived.Test.YtbdnpfjjaokdbaaHFnMotionx1
import Derived.Test.YtbdnpfjjaokdbaaHFnMotionx5
import Derived.Test.YtbdnpfjjaokdbaaHFnMotionx6
namespace Go.Proofs.Ytbdnpfjjaokdbaa.HFnMotion
open Go.RowKit Go.Proofs.YtbdnpfjjaokdbaaW.PrintWords Go.Proofs.YtbdnpfjjaokdbaaW.PrintLast Go.Proofs.YtbdnpfjjaokdbaaW.PrintMore
attribute [local go_sem] max2_int min2_int max_two min_two max_three min_three max_four min_four   -- for this text's walks alone
set_option linter.unusedVariables false
set_option linter.unusedSimpArgs false
theorem Ha : type_of% @Aside0.mk := @Aside0.mk
theorem Hb : type_of% @IsS84.alloc := @IsS84.alloc
theorem Hc : type_of% @IsS84.drew := @IsS84.drew
theorem Hd : type_of% @IsS84.drewN := @IsS84.drewN
theorem He : type_of% @IsS84.far := @IsS84.far
theorem Hf : type_of% @IsS84.ge := @IsS84.ge
theorem Hg : type_of% @IsS84.set_1 := @IsS84.set_1
theorem Hh : type_of% @IsS84.set_2 := @IsS84.set_2
theorem Hi : type_of% @blk_drew := @blk_drew
theorem Hj : type_of% @blk_alloc := @blk_alloc
theorem Hk : type_of% @blk_drewN := @blk_drewN
theorem Hl : type_of% @below_set := @below_set
theorem Hm : type_of% @keep_far := @keep_far
theorem Hn : type_of% @Kd.Q_drew := @Kd.Q_drew
theorem Ho : type_of% @cell_far := @cell_far
theorem Hp : type_of% @keep_drew := @keep_drew
theorem Hq : type_of% @blk_cell := @blk_cell
theorem Hr : type_of% @KeepBut.blk := @KeepBut.blk
theorem Hs : type_of% @Kd.Q_drewN := @Kd.Q_drewN
theorem Ht : type_of% @Kd.Q_alloc := @Kd.Q_alloc
theorem Hu : type_of% @KeepBut.set_ := @KeepBut.set_
theorem Hv : type_of% @pw_below_drewN := @pw_below_drewN
theorem Hw : type_of% @keep_alloc := @keep_alloc
theorem Hx : type_of% @keep_drewN := @keep_drewN
theorem Hy : type_of% @below_drew1 := @below_drew1
theorem Hz : type_of% @blk_frozen := @blk_frozen
theorem HC : type_of% @Kd.Q_far := @Kd.Q_far
theorem HD : type_of% @Kd.Q_mono := @Kd.Q_mono
theorem HE : type_of% @blk_far := @blk_far
theorem HF : type_of% @below_alloc := @below_alloc
theorem HG : type_of% @KeepBut.trans := @KeepBut.trans
theorem HH : type_of% @Kd.R_drew := @Kd.R_drew
theorem HI : type_of% @blk_put := @blk_put
theorem HJ : type_of% @Kd.Q_types := @Kd.Q_types
theorem HM : type_of% @Kd.Q_keep := @Kd.Q_keep
theorem HN : type_of% @gate_callee := @gate_callee
theorem HO : type_of% @blk_below := @blk_below
theorem HP : type_of% @Kd.R_far := @Kd.R_far
theorem HQ : type_of% @Kd.R_mono := @Kd.R_mono
theorem HR : type_of% @Kd.R_drewN := @Kd.R_drewN
theorem HS : type_of% @Kd.R_alloc := @Kd.R_alloc

/-! ### spec_l14DrawTwo: function 72 -/
mutual
def spec_l14DrawTwo.j1 : Nat → Int → Int → List Int → Int → Int → Int → Int → List Int → Int → Int → List Int → Option (Int × Int × List Int × Int × Int × List Int × Int × Int)
 | 0, _, _, _, _, _, _, _, _, _, _, _ => none
 | k + 1, x4, x5, x1000, x1001, x1002, x269000, x269001, x269002, x277000, x277001, x277002 => (spec_l1Once.f x1000 x1001 x1002 20).bind fun bt299 => (if bt299.1 = true then ((spec_l1Below.f x1000 bt299.2.1 bt299.2.2 4).bind fun bt302 => (if bt302.1 = 0 then ((some (([(-1), 256, 4611686018427387904] : List Int) : List Int)).bind fun zk => ((spec_l1Below.f x1000 bt302.2.1 bt302.2.2 3).bind fun bt308 => (if 0 ≤ bt308.1 then (if bt308.1 < (zk.length : Int) then (if 0 < (x277002.length : Int) then (some (x269000, x269001, x269002, x277000, x277001, (x277002.set (0 : Int).toNat (rd zk bt308.1)), bt308.2.1, bt308.2.2)) else (none)) else (none)) else (none)))) else (if bt302.1 = 1 then ((some (([0, 16, 20, 6, (-4)] : List Int) : List Int)).bind fun zl => ((spec_l1Below.f x1000 bt302.2.1 bt302.2.2 5).bind fun bt316 => (if 0 ≤ bt316.1 then (if bt316.1 < (zl.length : Int) then (some (rd zl bt316.1, x269001, x269002, x277000, x277001, x277002, bt316.2.1, bt316.2.2)) else (none)) else (none)))) else (if bt302.1 = 2 then (if 1 ≤ (x277002.length : Int) then (some (x269000, x269001, x269002, x277000, x277001, (x277002.drop (1 : Int).toNat), bt302.2.1, bt302.2.2)) else (none)) else (if bt302.1 = 3 then ((spec_l14DrawPicture.f k x1000 bt302.2.1 bt302.2.2 x5 x4).bind fun bt323 => (some (x269000, x269001, x269002, bt323.1, bt323.2.1, bt323.2.2.1, bt323.2.2.2.1, bt323.2.2.2.2))) else (some (x269000, x269001, x269002, x277000, x277001, x277002, bt302.2.1, bt302.2.2))))))) else (some (x269000, x269001, x269002, x277000, x277001, x277002, bt299.2.1, bt299.2.2)))
def spec_l14DrawTwo.l0 : Nat → Int → Int → Int → Int → Int → List Int → Int → Int → Int → Int → List Int → Int → Int → List Int → Option (Int × Int × List Int × Int × Int × List Int × Int × Int)
 | 0, _, _, _, _, _, _, _, _, _, _, _, _, _, _ => none
 | k + 1, x4, x5, x8, x9, x10, x1000, x1001, x1002, x269000, x269001, x269002, x277000, x277001, x277002 => if x10 < (wrap64 (x4 * x5)) then (if x4 = 0 then (none) else ((spec_l14At.f x269000 x269001 x269002 (wrap64 ((Int.tmod x10 x4) + x8)) (wrap64 ((wrap64 (Int.tdiv x10 x4)) + x9))).bind fun vy => ((spec_l1Once.f x1000 x1001 x1002 9).bind fun bt287 => (if bt287.1 = true then ((spec_l1Below.f x1000 bt287.2.1 bt287.2.2 256).bind fun bt290 => (if x277002.length < 17592186044416 then (spec_l14DrawTwo.l0 k x4 x5 x8 x9 (wrap64 (x10 + 1)) x1000 bt290.2.1 bt290.2.2 x269000 x269001 x269002 x277000 x277001 (x277002 ++ [bt290.1])) else (none))) else (if x277002.length < 17592186044416 then (spec_l14DrawTwo.l0 k x4 x5 x8 x9 (wrap64 (x10 + 1)) x1000 bt287.2.1 bt287.2.2 x269000 x269001 x269002 x277000 x277001 (x277002 ++ [vy])) else (none)))))) else (spec_l14DrawTwo.j1 k x4 x5 x1000 x1001 x1002 x269000 x269001 x269002 x277000 x277001 x277002)
end
def spec_l14DrawTwo.f (k : Nat) (s0_0 : List Int) (s0_1 : Int) (s0_2 : Int) : Option (Int × Int × List Int × Int × Int × List Int × Int × Int) := (spec_l1Below.f s0_0 s0_1 s0_2 3).bind fun bt255 => ((spec_l1Below.f s0_0 bt255.2.1 bt255.2.2 3).bind fun bt258 => ((spec_l14DrawPicture.f k s0_0 bt258.2.1 bt258.2.2 (wrap64 (4 * (wrap64 (1 + bt255.1)))) (wrap64 (4 * (wrap64 (1 + bt258.1))))).bind fun bt261 => ((spec_l14DrawPicture.f k s0_0 bt261.2.2.2.1 bt261.2.2.2.2 (wrap64 (4 * (wrap64 (1 + bt255.1)))) (wrap64 (4 * (wrap64 (1 + bt258.1))))).bind fun bt269 => ((spec_l1Once.f s0_0 bt269.2.2.2.1 bt269.2.2.2.2 2).bind fun bt277 => (if bt277.1 = true then ((spec_l1From.f s0_0 bt277.2.1 bt277.2.2 (-2) 2).bind fun bt280 => ((spec_l1From.f s0_0 bt280.2.1 bt280.2.2 (-2) 2).bind fun bt283 => (spec_l14DrawTwo.l0 k (wrap64 (4 * (wrap64 (1 + bt255.1)))) (wrap64 (4 * (wrap64 (1 + bt258.1)))) bt280.1 bt283.1 0 s0_0 bt283.2.1 bt283.2.2 bt261.1 bt261.2.1 bt261.2.2.1 (wrap64 (4 * (wrap64 (1 + bt255.1)))) (wrap64 (4 * (wrap64 (1 + bt258.1)))) ([] : List Int)))) else (spec_l14DrawTwo.j1 k (wrap64 (4 * (wrap64 (1 + bt255.1)))) (wrap64 (4 * (wrap64 (1 + bt258.1)))) s0_0 bt277.2.1 bt277.2.2 bt261.1 bt261.2.1 bt261.2.2.1 bt269.1 bt269.2.1 bt269.2.2.1))))))
theorem spec_l14DrawTwo.mono_l : ∀ k, (∀ y0 y1 y2 y3 y4 y5 y6 y7 y8 y9 y10, LeO (spec_l14DrawTwo.j1 k y0 y1 y2 y3 y4 y5 y6 y7 y8 y9 y10) (spec_l14DrawTwo.j1 (k + 1) y0 y1 y2 y3 y4 y5 y6 y7 y8 y9 y10)) ∧ (∀ y0 y1 y2 y3 y4 y5 y6 y7 y8 y9 y10 y11 y12 y13, LeO (spec_l14DrawTwo.l0 k y0 y1 y2 y3 y4 y5 y6 y7 y8 y9 y10 y11 y12 y13) (spec_l14DrawTwo.l0 (k + 1) y0 y1 y2 y3 y4 y5 y6 y7 y8 y9 y10 y11 y12 y13))
 | 0 => ⟨fun _ _ _ _ _ _ _ _ _ _ _ r h => by simp [spec_l14DrawTwo.j1] at h, fun _ _ _ _ _ _ _ _ _ _ _ _ _ _ r h => by simp [spec_l14DrawTwo.l0] at h⟩
 | k + 1 => by
  obtain⟨ih0,ih1⟩:=spec_l14DrawTwo.mono_l k
  refine⟨?_,?_⟩
  ·intro y0 y1 y2 y3 y4 y5 y6 y7 y8 y9 y10
   unfold spec_l14DrawTwo.j1
   repeat' first
   | (with_reducible exact ih0 _ _ _ _ _ _ _ _ _ _ _)
   | (with_reducible exact ih1 _ _ _ _ _ _ _ _ _ _ _ _ _ _)
   | (with_reducible exact spec_l14DrawPicture.mono _ _ _ _ _ _)
   | (with_reducible exact LeO.refl _)
   | (with_reducible exact LeO.none _)
   | (with_reducible refine LeO.ite ?_ ?_)
   | (with_reducible refine LeO.bind ?_ (fun _ => ?_))
   | exact ih0 _ _ _ _ _ _ _ _ _ _ _
   | exact ih1 _ _ _ _ _ _ _ _ _ _ _ _ _ _
   | exact spec_l14DrawPicture.mono _ _ _ _ _ _
   | exact LeO.none _
   | refine LeO.ite ?_ ?_
   | refine LeO.bind ?_ (fun _ => ?_)
  ·intro y0 y1 y2 y3 y4 y5 y6 y7 y8 y9 y10 y11 y12 y13
   unfold spec_l14DrawTwo.l0
   repeat' first
   | (with_reducible exact ih0 _ _ _ _ _ _ _ _ _ _ _)
   | (with_reducible exact ih1 _ _ _ _ _ _ _ _ _ _ _ _ _ _)
   | (with_reducible exact spec_l14DrawPicture.mono _ _ _ _ _ _)
   | (with_reducible exact LeO.refl _)
   | (with_reducible exact LeO.none _)
   | (with_reducible refine LeO.ite ?_ ?_)
   | (with_reducible refine LeO.bind ?_ (fun _ => ?_))
   | exact ih0 _ _ _ _ _ _ _ _ _ _ _
   | exact ih1 _ _ _ _ _ _ _ _ _ _ _ _ _ _
   | exact spec_l14DrawPicture.mono _ _ _ _ _ _
   | exact LeO.none _
   | refine LeO.ite ?_ ?_
   | refine LeO.bind ?_ (fun _ => ?_)
theorem spec_l14DrawTwo.mono : ∀ a0 a1 a2 k, LeO (spec_l14DrawTwo.f k a0 a1 a2) (spec_l14DrawTwo.f (k + 1) a0 a1 a2) := by
 intro a0 a1 a2 k
 obtain⟨ih0,ih1⟩:=spec_l14DrawTwo.mono_l k
 unfold spec_l14DrawTwo.f
 repeat' first
   | (with_reducible exact ih0 _ _ _ _ _ _ _ _ _ _ _)
   | (with_reducible exact ih1 _ _ _ _ _ _ _ _ _ _ _ _ _ _)
   | (with_reducible exact spec_l14DrawPicture.mono _ _ _ _ _ _)
   | (with_reducible exact LeO.refl _)
   | (with_reducible exact LeO.none _)
   | (with_reducible refine LeO.ite ?_ ?_)
   | (with_reducible refine LeO.bind ?_ (fun _ => ?_))
   | exact ih0 _ _ _ _ _ _ _ _ _ _ _
   | exact ih1 _ _ _ _ _ _ _ _ _ _ _ _ _ _
   | exact spec_l14DrawPicture.mono _ _ _ _ _ _
   | exact LeO.none _
   | refine LeO.ite ?_ ?_
   | refine LeO.bind ?_ (fun _ => ?_)
def spec_l14DrawTwo.T12 : Bool × List (List Nat × List Nat) := (true, [([], []), ([], []), ([], []), ([1, 2], [1, 2]), ([], []), ([3, 4], [3, 4]), ([], []), ([], []), ([6, 7], [6, 7]), ([], []), ([8, 9], [8, 9]), ([0, 5, 10], [0, 5, 10]), ([11, 11, 0, 1, 2, 3, 4, 5, 6, 7, 8, 9, 10, 11], [11])])
def spec_l14DrawTwo.B12 : List Nat := [0, 0, 0, 6, 0, 30, 0, 0, 192, 0, 960, 2047, 4095]
theorem spec_l14DrawTwo.tab12 : rtab .any (opsOf Try.f72 12) = spec_l14DrawTwo.T12 := by kernel_rfl
theorem spec_l14DrawTwo.bits12 : waitsOk spec_l14DrawTwo.T12.2 spec_l14DrawTwo.B12 = true := by kernel_rfl
def spec_l14DrawTwo.T19 : Bool × List (List Nat × List Nat) := (true, [([], []), ([0], [0]), ([], []), ([], []), ([3], [3]), ([2, 4], [2, 4]), ([5], [5]), ([1, 0, 1, 2, 3, 4, 5, 6], [1]), ([7, 6, 4, 0, 1, 2, 3, 4, 5, 6], [6, 7])])
def spec_l14DrawTwo.B19 : List Nat := [0, 1, 0, 0, 8, 28, 60, 127, 255]
theorem spec_l14DrawTwo.tab19 : rtab .any (opsOf Try.f72 19) = spec_l14DrawTwo.T19 := by kernel_rfl
theorem spec_l14DrawTwo.bits19 : waitsOk spec_l14DrawTwo.T19.2 spec_l14DrawTwo.B19 = true := by kernel_rfl
set_option maxHeartbeats 8000000 in
set_option maxRecDepth 100000 in
theorem spec_l14DrawTwo.calls (k : Nat) (g : Nat) (s0_0 : List Int) (s0_1 : Int) (s0_2 : Int) (r1 : Int) (r2 : Int) (r3 : List Int) (r4 : Int) (r5 : Int) (r6 : List Int) (r7 : Int) (r8 : Int) (w0 w : World) (hI : IsS84 w0 w g s0_0 s0_1 s0_2) (hB : Below w0.heap.size w0 w) (h : spec_l14DrawTwo.f k s0_0 s0_1 s0_2 = some (r1, r2, r3, r4, r5, r6, r7, r8)) :
  Calls Try.prog 72 #[.pointer (some ⟨g,0,none⟩)] w fun e w'=>∃ v2_ v5_:Value,e=.returned (.tuple #[.agg #[.int .i64 r1,.int .i64 r2,v2_],.agg #[.int .i64 r4,.int .i64 r5,v5_]])∧Kd.Q (Kd.int .i64) 2 w' w.heap.size (fun k_=>some k_≠(v5_:Value).ownBlock) v2_ r3∧Kd.Q (Kd.int .i64) 2 w' w.heap.size (fun k_=>some k_≠(v2_:Value).ownBlock) v5_ r6∧IsS84 w0 w' g s0_0 r7 r8∧Below w0.heap.size w0 w'∧KeepBut w w' g none:=by
 have hu27:=Try.underlying27
 have qu:=Ha hI
 have HK:=Ha (KeepBut.refl w g none)
 have HL:=Ha hB.size
 clear hI
 have HW0:=Ha hB.size
 have HB:=Ha hB
 clear hB
 have H:((spec_l1Below.f s0_0 s0_1 s0_2 3).bind fun bt255=>((spec_l1Below.f s0_0 bt255.2.1 bt255.2.2 3).bind fun bt258=>((spec_l14DrawPicture.f k s0_0 bt258.2.1 bt258.2.2 (wrap64 (4*(wrap64 (1+bt255.1)))) (wrap64 (4*(wrap64 (1+bt258.1))))).bind fun bt261=>((spec_l14DrawPicture.f k s0_0 bt261.2.2.2.1 bt261.2.2.2.2 (wrap64 (4*(wrap64 (1+bt255.1)))) (wrap64 (4*(wrap64 (1+bt258.1))))).bind fun bt269=>((spec_l1Once.f s0_0 bt269.2.2.2.1 bt269.2.2.2.2 2).bind fun bt277=>(if bt277.1=true then ((spec_l1From.f s0_0 bt277.2.1 bt277.2.2 (-2) 2).bind fun bt280=>((spec_l1From.f s0_0 bt280.2.1 bt280.2.2 (-2) 2).bind fun bt283=>(spec_l14DrawTwo.l0 k (wrap64 (4*(wrap64 (1+bt255.1)))) (wrap64 (4*(wrap64 (1+bt258.1)))) bt280.1 bt283.1 0 s0_0 bt283.2.1 bt283.2.2 bt261.1 bt261.2.1 bt261.2.2.1 (wrap64 (4*(wrap64 (1+bt255.1)))) (wrap64 (4*(wrap64 (1+bt258.1)))) ([]:List Int)))) else (spec_l14DrawTwo.j1 k (wrap64 (4*(wrap64 (1+bt255.1)))) (wrap64 (4*(wrap64 (1+bt258.1)))) s0_0 bt277.2.1 bt277.2.2 bt261.1 bt261.2.1 bt261.2.2.1 bt269.1 bt269.2.1 bt269.2.2.1)))))))=some (r1,r2,r3,r4,r5,r6,r7,r8):=h
 clear h
 replace H:=Option.bind_eq_some_iff.mp H
 obtain⟨⟨yj,t256,t257⟩,A20,H⟩:=H
 replace H:((spec_l1Below.f s0_0 t256 t257 3).bind fun bt258=>((spec_l14DrawPicture.f k s0_0 bt258.2.1 bt258.2.2 (wrap64 (4*(wrap64 (1+yj)))) (wrap64 (4*(wrap64 (1+bt258.1))))).bind fun bt261=>((spec_l14DrawPicture.f k s0_0 bt261.2.2.2.1 bt261.2.2.2.2 (wrap64 (4*(wrap64 (1+yj)))) (wrap64 (4*(wrap64 (1+bt258.1))))).bind fun bt269=>((spec_l1Once.f s0_0 bt269.2.2.2.1 bt269.2.2.2.2 2).bind fun bt277=>(if bt277.1=true then ((spec_l1From.f s0_0 bt277.2.1 bt277.2.2 (-2) 2).bind fun bt280=>((spec_l1From.f s0_0 bt280.2.1 bt280.2.2 (-2) 2).bind fun bt283=>(spec_l14DrawTwo.l0 k (wrap64 (4*(wrap64 (1+yj)))) (wrap64 (4*(wrap64 (1+bt258.1)))) bt280.1 bt283.1 0 s0_0 bt283.2.1 bt283.2.2 bt261.1 bt261.2.1 bt261.2.2.1 (wrap64 (4*(wrap64 (1+yj)))) (wrap64 (4*(wrap64 (1+bt258.1)))) ([]:List Int)))) else (spec_l14DrawTwo.j1 k (wrap64 (4*(wrap64 (1+yj)))) (wrap64 (4*(wrap64 (1+bt258.1)))) s0_0 bt277.2.1 bt277.2.2 bt261.1 bt261.2.1 bt261.2.2.1 bt269.1 bt269.2.1 bt269.2.2.1))))))=some (r1,r2,r3,r4,r5,r6,r7,r8):=H
 have A2:=Ha A20
 clear A20
 replace H:=Option.bind_eq_some_iff.mp H
 obtain⟨⟨yr,t259,t260⟩,A30,H⟩:=H
 replace H:((spec_l14DrawPicture.f k s0_0 t259 t260 (wrap64 (4*(wrap64 (1+yj)))) (wrap64 (4*(wrap64 (1+yr))))).bind fun bt261=>((spec_l14DrawPicture.f k s0_0 bt261.2.2.2.1 bt261.2.2.2.2 (wrap64 (4*(wrap64 (1+yj)))) (wrap64 (4*(wrap64 (1+yr))))).bind fun bt269=>((spec_l1Once.f s0_0 bt269.2.2.2.1 bt269.2.2.2.2 2).bind fun bt277=>(if bt277.1=true then ((spec_l1From.f s0_0 bt277.2.1 bt277.2.2 (-2) 2).bind fun bt280=>((spec_l1From.f s0_0 bt280.2.1 bt280.2.2 (-2) 2).bind fun bt283=>(spec_l14DrawTwo.l0 k (wrap64 (4*(wrap64 (1+yj)))) (wrap64 (4*(wrap64 (1+yr)))) bt280.1 bt283.1 0 s0_0 bt283.2.1 bt283.2.2 bt261.1 bt261.2.1 bt261.2.2.1 (wrap64 (4*(wrap64 (1+yj)))) (wrap64 (4*(wrap64 (1+yr)))) ([]:List Int)))) else (spec_l14DrawTwo.j1 k (wrap64 (4*(wrap64 (1+yj)))) (wrap64 (4*(wrap64 (1+yr)))) s0_0 bt277.2.1 bt277.2.2 bt261.1 bt261.2.1 bt261.2.2.1 bt269.1 bt269.2.1 bt269.2.2.1)))))=some (r1,r2,r3,r4,r5,r6,r7,r8):=H
 have A3:=Ha A30
 clear A30
 replace H:=Option.bind_eq_some_iff.mp H
 obtain⟨⟨ye,yd,qz,t266,t267⟩,A40,H⟩:=H
 replace H:((spec_l14DrawPicture.f k s0_0 t266 t267 (wrap64 (4*(wrap64 (1+yj)))) (wrap64 (4*(wrap64 (1+yr))))).bind fun bt269=>((spec_l1Once.f s0_0 bt269.2.2.2.1 bt269.2.2.2.2 2).bind fun bt277=>(if bt277.1=true then ((spec_l1From.f s0_0 bt277.2.1 bt277.2.2 (-2) 2).bind fun bt280=>((spec_l1From.f s0_0 bt280.2.1 bt280.2.2 (-2) 2).bind fun bt283=>(spec_l14DrawTwo.l0 k (wrap64 (4*(wrap64 (1+yj)))) (wrap64 (4*(wrap64 (1+yr)))) bt280.1 bt283.1 0 s0_0 bt283.2.1 bt283.2.2 ye yd qz (wrap64 (4*(wrap64 (1+yj)))) (wrap64 (4*(wrap64 (1+yr)))) ([]:List Int)))) else (spec_l14DrawTwo.j1 k (wrap64 (4*(wrap64 (1+yj)))) (wrap64 (4*(wrap64 (1+yr)))) s0_0 bt277.2.1 bt277.2.2 ye yd qz bt269.1 bt269.2.1 bt269.2.2.1))))=some (r1,r2,r3,r4,r5,r6,r7,r8):=H
 have A4:=Ha A40
 clear A40
 replace H:=Option.bind_eq_some_iff.mp H
 obtain⟨⟨vs,vt,vq,t274,t275⟩,A50,H⟩:=H
 replace H:((spec_l1Once.f s0_0 t274 t275 2).bind fun bt277=>(if bt277.1=true then ((spec_l1From.f s0_0 bt277.2.1 bt277.2.2 (-2) 2).bind fun bt280=>((spec_l1From.f s0_0 bt280.2.1 bt280.2.2 (-2) 2).bind fun bt283=>(spec_l14DrawTwo.l0 k (wrap64 (4*(wrap64 (1+yj)))) (wrap64 (4*(wrap64 (1+yr)))) bt280.1 bt283.1 0 s0_0 bt283.2.1 bt283.2.2 ye yd qz (wrap64 (4*(wrap64 (1+yj)))) (wrap64 (4*(wrap64 (1+yr)))) ([]:List Int)))) else (spec_l14DrawTwo.j1 k (wrap64 (4*(wrap64 (1+yj)))) (wrap64 (4*(wrap64 (1+yr)))) s0_0 bt277.2.1 bt277.2.2 ye yd qz vs vt vq)))=some (r1,r2,r3,r4,r5,r6,r7,r8):=H
 have A5:=Ha A50
 clear A50
 replace H:=Option.bind_eq_some_iff.mp H
 obtain⟨⟨t277,t278,t279⟩,A60,H⟩:=H
 replace H:(if t277=true then ((spec_l1From.f s0_0 t278 t279 (-2) 2).bind fun bt280=>((spec_l1From.f s0_0 bt280.2.1 bt280.2.2 (-2) 2).bind fun bt283=>(spec_l14DrawTwo.l0 k (wrap64 (4*(wrap64 (1+yj)))) (wrap64 (4*(wrap64 (1+yr)))) bt280.1 bt283.1 0 s0_0 bt283.2.1 bt283.2.2 ye yd qz (wrap64 (4*(wrap64 (1+yj)))) (wrap64 (4*(wrap64 (1+yr)))) ([]:List Int)))) else (spec_l14DrawTwo.j1 k (wrap64 (4*(wrap64 (1+yj)))) (wrap64 (4*(wrap64 (1+yr)))) s0_0 t278 t279 ye yd qz vs vt vq))=some (r1,r2,r3,r4,r5,r6,r7,r8):=H
 have A6:=Ha A60
 clear A60
 have HC7:=Ha H
 clear H
 go_enter Try.func72,Try.ntmps72
 go_upto_if 29 with (first|((with_reducible refine gate_dst (N:=2) rfl ?_);refine box_event ?hg (N:=2) ?hd (cs:=#[.int .i64 0,.int .i64 0,.slice none 0 0]) (t:=27) ?hr ?_;(case hd=>rfl);(case hg=>rfl);(case hr=>first|(go_simp;done)|(go_simp;rfl));intro qd hg w8 hbox hb;have yt:=Ha (IsS84.below (by repeat(first|(with_reducible first|exact qu.out|apply Hb|apply Hd|apply Hc|apply Hg|apply Hh)|exact qu.out)) hb);have yv:=Ha (HG (by repeat(first|(with_reducible first|exact HK.out|apply Hu|apply Hx|apply Hp|apply Hw)|exact HK.out)) (KeepBut.of_below hb g none) (.inl rfl));have ys:=Ha (below_step (by repeat(first|(with_reducible first|exact HB.out|apply HF|apply Hv|apply Hy|refine Hl ?_ (Hf qu.out))|exact HB.out)) hb);have yw:=Ha (hbox);have yu:=Ha ((by rw [hg];exact(keep_size (w:=w) (g:=g) (row:=none) (by repeat(first|(with_reducible first|exact HK.out|apply Hu|apply Hx|apply Hp|apply Hw)|exact HK.out))):w.heap.size≤qd));have yx:=Ha ((Nat.le_trans HW0.out (by rw [hg];exact(keep_size (w:=w) (g:=g) (row:=none) (by repeat(first|(with_reducible first|exact HK.out|apply Hu|apply Hx|apply Hp|apply Hw)|exact HK.out))):w.heap.size≤qd):w0.heap.size≤qd));have yy:=Ha ((by rw [hg];exact Nat.ne_of_lt (IsS84.lt (show IsS84 w0 _ g s0_0 s0_1 s0_2 from by repeat(first|(with_reducible first|exact qu.out|apply Hb|apply Hd|apply Hc|apply Hg|apply Hh)|exact qu.out))):g≠qd));have yz:=Ha ((by rw [hg];exact Nat.ne_of_gt (IsS84.lt (show IsS84 w0 _ g s0_0 s0_1 s0_2 from by repeat(first|(with_reducible first|exact qu.out|apply Hb|apply Hd|apply Hc|apply Hg|apply Hh)|exact qu.out))):qd≠g));clear qu;clear HK;clear HB;have qu:=yt;have HK:=yv;have HB:=ys;have qe:=yw;have yf:=yu;have yo:=yx;have qo:=yy;have zf:=yz;clear yt yv ys yw yu yx yy yz;clear hb hbox hg)|((with_reducible refine gate_dst (N:=3) rfl ?_);refine box_event ?hg (N:=3) ?hd (cs:=#[.int .i64 0,.int .i64 0,.slice none 0 0]) (t:=27) ?hr ?_;(case hd=>rfl);(case hg=>rfl);(case hr=>first|(go_simp;done)|(go_simp;rfl));intro qf hg w9 hbox hb;have yt:=Ha (IsS84.below (by repeat(first|(with_reducible first|exact qu.out|apply Hb|apply Hd|apply Hc|apply Hg|apply Hh|refine He ?_ qo.out _)|exact qu.out)) hb);have yv:=Ha (HO (g:=qd) (o:=.cells #[.int .i64 0,.int .i64 0,.slice none 0 0] 27 (0,0)) (by(with_reducible repeat(first|refine Hk ?_ _|refine Hi ?_|refine Hj ?_ _));exact qe.out) hb);have ys:=Ha (HG (by repeat(first|(with_reducible first|exact HK.out|apply Hu|apply Hx|apply Hp|apply Hw|refine Hm ?_ yf.out _)|exact HK.out)) (KeepBut.of_below hb g none) (.inl rfl));have yw:=Ha (below_step (by repeat(first|(with_reducible first|exact HB.out|apply HF|apply Hv|apply Hy|refine Hl ?_ (Hf qu.out)|refine Hl ?_ yo.out)|exact HB.out)) hb);have yu:=Ha (hbox);have yx:=Ha ((by rw [hg];exact(keep_size (w:=w) (g:=g) (row:=none) (by repeat(first|(with_reducible first|exact HK.out|apply Hu|apply Hx|apply Hp|apply Hw|refine Hm ?_ yf.out _)|exact HK.out))):w.heap.size≤qf));have yy:=Ha ((Nat.le_trans HW0.out (by rw [hg];exact(keep_size (w:=w) (g:=g) (row:=none) (by repeat(first|(with_reducible first|exact HK.out|apply Hu|apply Hx|apply Hp|apply Hw|refine Hm ?_ yf.out _)|exact HK.out))):w.heap.size≤qf):w0.heap.size≤qf));have yz:=Ha ((by rw [hg];exact Nat.ne_of_lt (blk_lt (g:=qd) (o:=.cells #[.int .i64 0,.int .i64 0,.slice none 0 0] 27 (0,0)) (by(with_reducible repeat(first|refine Hk ?_ _|refine Hi ?_|refine Hj ?_ _));exact qe.out)):qd≠qf));have zd:=Ha ((by rw [hg];exact Nat.ne_of_gt (blk_lt (g:=qd) (o:=.cells #[.int .i64 0,.int .i64 0,.slice none 0 0] 27 (0,0)) (by(with_reducible repeat(first|refine Hk ?_ _|refine Hi ?_|refine Hj ?_ _));exact qe.out)):qf≠qd));have ve:=Ha ((by rw [hg];exact Nat.ne_of_lt (IsS84.lt (show IsS84 w0 _ g s0_0 s0_1 s0_2 from by repeat(first|(with_reducible first|exact qu.out|apply Hb|apply Hd|apply Hc|apply Hg|apply Hh|refine He ?_ qo.out _)|exact qu.out))):g≠qf));have vx:=Ha ((by rw [hg];exact Nat.ne_of_gt (IsS84.lt (show IsS84 w0 _ g s0_0 s0_1 s0_2 from by repeat(first|(with_reducible first|exact qu.out|apply Hb|apply Hd|apply Hc|apply Hg|apply Hh|refine He ?_ qo.out _)|exact qu.out))):qf≠g));clear qu;clear qe;clear HK;clear HB;have qu:=yt;have qe:=yv;have HK:=ys;have HB:=yw;have qg:=yu;have yi:=yx;have yq:=yy;have qv:=yz;have qw:=zd;have qq:=ve;have zg:=vx;clear yt yv ys yw yu yx yy yz zd ve vx;clear hb hbox hg)|((with_reducible refine HN (f:=65) rfl ?_);refine goesL_ (some 13) rfl rfl Try.func65 (by kernel_rfl) rfl #[.pointer (some ⟨g,0,none⟩),.int .i64 3] rfl (by(try simp only [List.map_toArray,List.map_cons,List.map_nil]);first|done|rfl|(simp only [List.length_drop,List.length_take];rfl)) ?_;(with_reducible refine(spec_l1Below.calls g s0_0 s0_1 s0_2 3 yj t256 t257 w0 _ ?side1 ?side2 A2.out).mono ?_);(case side1=>repeat(first|(with_reducible first|exact qu.out|apply Hb|apply Hd|apply Hc|apply Hg|apply Hh|refine He ?_ qo.out _|refine He ?_ qq.out _)|exact qu.out));(case side2=>repeat(first|(with_reducible first|exact HB.out|apply HF|apply Hv|apply Hy|refine Hl ?_ (Hf qu.out)|refine Hl ?_ yo.out|refine Hl ?_ yq.out)|exact HB.out));rintro e w10 ⟨rfl,hi,hb,hk⟩;refine⟨_,rfl,?_⟩;have yt:=Ha (Hr hk (g':=qd) (o:=.cells #[.int .i64 0,.int .i64 0,.slice none 0 0] 27 (0,0)) (by(with_reducible repeat(first|refine Hk ?_ _|refine Hi ?_|refine Hj ?_ _));exact qe.out) zf.out (by simp));have yv:=Ha (Hr hk (g':=qf) (o:=.cells #[.int .i64 0,.int .i64 0,.slice none 0 0] 27 (0,0)) (by(with_reducible repeat(first|refine Hk ?_ _|refine Hi ?_|refine Hj ?_ _));exact qg.out) zg.out (by simp));have ys:=Ha (HG (by repeat(first|(with_reducible first|exact HK.out|apply Hu|apply Hx|apply Hp|apply Hw|refine Hm ?_ yf.out _|refine Hm ?_ yi.out _)|exact HK.out)) hk (.inl rfl));have yw:=Ha (hb);have yu:=Ha (hi);clear qe;clear qg;clear HK;clear HB;clear qu;have qe:=yt;have qg:=yv;have HK:=ys;have HB:=yw;have qu:=yu;clear yt yv ys yw yu;(try clear hb);(try clear hb2);(try clear hk);(try clear hi))|((with_reducible refine HN (f:=65) rfl ?_);refine goesL_ (some 17) rfl rfl Try.func65 (by kernel_rfl) rfl #[.pointer (some ⟨g,0,none⟩),.int .i64 3] rfl (by(try simp only [List.map_toArray,List.map_cons,List.map_nil]);first|done|rfl|(simp only [List.length_drop,List.length_take];rfl)) ?_;(with_reducible refine(spec_l1Below.calls g s0_0 t256 t257 3 yr t259 t260 w0 _ ?side1 ?side2 A3.out).mono ?_);(case side1=>repeat(first|(with_reducible first|exact qu.out|apply Hb|apply Hd|apply Hc|apply Hg|apply Hh|refine He ?_ qo.out _|refine He ?_ qq.out _)|exact qu.out));(case side2=>repeat(first|(with_reducible first|exact HB.out|apply HF|apply Hv|apply Hy|refine Hl ?_ (Hf qu.out)|refine Hl ?_ yo.out|refine Hl ?_ yq.out)|exact HB.out));rintro e w11 ⟨rfl,hi,hb,hk⟩;refine⟨_,rfl,?_⟩;have yt:=Ha (Hr hk (g':=qd) (o:=.cells #[.int .i64 0,.int .i64 0,.slice none 0 0] 27 (0,0)) (by(with_reducible repeat(first|refine Hk ?_ _|refine Hi ?_|refine Hj ?_ _));exact qe.out) zf.out (by simp));have yv:=Ha (Hr hk (g':=qf) (o:=.cells #[.int .i64 0,.int .i64 0,.slice none 0 0] 27 (0,0)) (by(with_reducible repeat(first|refine Hk ?_ _|refine Hi ?_|refine Hj ?_ _));exact qg.out) zg.out (by simp));have ys:=Ha (HG (by repeat(first|(with_reducible first|exact HK.out|apply Hu|apply Hx|apply Hp|apply Hw|refine Hm ?_ yf.out _|refine Hm ?_ yi.out _)|exact HK.out)) hk (.inl rfl));have yw:=Ha (hb);have yu:=Ha (hi);clear qe;clear qg;clear HK;clear HB;clear qu;have qe:=yt;have qg:=yv;have HK:=ys;have HB:=yw;have qu:=yu;clear yt yv ys yw yu;(try clear hb);(try clear hb2);(try clear hk);(try clear hi))|((with_reducible refine HN (f:=92) rfl ?_);refine goesL_ (some 23) rfl rfl Try.func92 (by kernel_rfl) rfl #[.pointer (some ⟨g,0,none⟩),.int .i64 (wrap64 (4*(wrap64 (1+yj)))),.int .i64 (wrap64 (4*(wrap64 (1+yr))))] rfl (by(try simp only [List.map_toArray,List.map_cons,List.map_nil]);first|done|rfl|(simp only [List.length_drop,List.length_take];rfl)) ?_;(with_reducible refine(spec_l14DrawPicture.calls k g s0_0 t259 t260 (wrap64 (4*(wrap64 (1+yj)))) (wrap64 (4*(wrap64 (1+yr)))) ye yd qz t266 t267 w0 _ ?side1 ?side2 A4.out).mono ?_);(case side1=>repeat(first|(with_reducible first|exact qu.out|apply Hb|apply Hd|apply Hc|apply Hg|apply Hh|refine He ?_ qo.out _|refine He ?_ qq.out _)|exact qu.out));(case side2=>repeat(first|(with_reducible first|exact HB.out|apply HF|apply Hv|apply Hy|refine Hl ?_ (Hf qu.out)|refine Hl ?_ yo.out|refine Hl ?_ yq.out)|exact HB.out));rintro e w12 ⟨v264,rfl,ho0,hi,hb,hk⟩;refine⟨_,rfl,?_⟩;have yt:=Ha (Hr hk (g':=qd) (o:=.cells #[.int .i64 0,.int .i64 0,.slice none 0 0] 27 (0,0)) (by(with_reducible repeat(first|refine Hk ?_ _|refine Hi ?_|refine Hj ?_ _));exact qe.out) zf.out (by simp));have yv:=Ha (Hr hk (g':=qf) (o:=.cells #[.int .i64 0,.int .i64 0,.slice none 0 0] 27 (0,0)) (by(with_reducible repeat(first|refine Hk ?_ _|refine Hi ?_|refine Hj ?_ _));exact qg.out) zg.out (by simp));have ys:=Ha (Kd.R_lower ho0 (keep_size (w:=w) (g:=g) (row:=none) (by repeat(first|(with_reducible first|exact HK.out|apply Hu|apply Hx|apply Hp|apply Hw|refine Hm ?_ yf.out _|refine Hm ?_ yi.out _)|exact HK.out))));have yw:=Ha (HG (by repeat(first|(with_reducible first|exact HK.out|apply Hu|apply Hx|apply Hp|apply Hw|refine Hm ?_ yf.out _|refine Hm ?_ yi.out _)|exact HK.out)) hk (.inl rfl));have yu:=Ha (hb);have yx:=Ha (hi);clear qe;clear qg;clear HK;clear HB;clear qu;have qe:=yt;have qg:=yv;have zn:=ys;have HK:=yw;have HB:=yu;have qu:=yx;clear yt yv ys yw yu yx;(try clear hb);(try clear hb2);(try clear hk);(try clear hi);(try clear ho0))|((with_reducible refine gate_dst (N:=6) rfl ?_);refine box_event ?hg (N:=6) ?hd (cs:=#[.int .i64 0,.int .i64 0,.slice none 0 0]) (t:=27) ?hr ?_;(case hd=>rfl);(case hg=>rfl);(case hr=>first|(go_simp;done)|(go_simp;rfl));intro ya hg w13 hbox hb;have yt:=Ha (Kd.R_below (by(with_reducible repeat(first|apply HS|apply HR|apply HH));exact zn.out) hb);have yv:=Ha (IsS84.below (by repeat(first|(with_reducible first|exact qu.out|apply Hb|apply Hd|apply Hc|apply Hg|apply Hh|refine He ?_ qo.out _|refine He ?_ qq.out _)|exact qu.out)) hb);have ys:=Ha (HO (g:=qd) (o:=.cells #[.int .i64 0,.int .i64 0,.slice none 0 0] 27 (0,0)) (by(with_reducible repeat(first|refine Hk ?_ _|refine Hi ?_|refine Hj ?_ _));exact qe.out) hb);have yw:=Ha (HO (g:=qf) (o:=.cells #[.int .i64 0,.int .i64 0,.slice none 0 0] 27 (0,0)) (by(with_reducible repeat(first|refine Hk ?_ _|refine Hi ?_|refine Hj ?_ _));exact qg.out) hb);have yu:=Ha (HG (by repeat(first|(with_reducible first|exact HK.out|apply Hu|apply Hx|apply Hp|apply Hw|refine Hm ?_ yf.out _|refine Hm ?_ yi.out _)|exact HK.out)) (KeepBut.of_below hb g none) (.inl rfl));have yx:=Ha (below_step (by repeat(first|(with_reducible first|exact HB.out|apply HF|apply Hv|apply Hy|refine Hl ?_ (Hf qu.out)|refine Hl ?_ yo.out|refine Hl ?_ yq.out)|exact HB.out)) hb);have yy:=Ha (hbox);have yz:=Ha ((by rw [hg];exact(keep_size (w:=w) (g:=g) (row:=none) (by repeat(first|(with_reducible first|exact HK.out|apply Hu|apply Hx|apply Hp|apply Hw|refine Hm ?_ yf.out _|refine Hm ?_ yi.out _)|exact HK.out))):w.heap.size≤ya));have zd:=Ha ((Nat.le_trans HW0.out (by rw [hg];exact(keep_size (w:=w) (g:=g) (row:=none) (by repeat(first|(with_reducible first|exact HK.out|apply Hu|apply Hx|apply Hp|apply Hw|refine Hm ?_ yf.out _|refine Hm ?_ yi.out _)|exact HK.out))):w.heap.size≤ya):w0.heap.size≤ya));have ve:=Ha ((by rw [hg];exact Nat.ne_of_lt (blk_lt (g:=qd) (o:=.cells #[.int .i64 0,.int .i64 0,.slice none 0 0] 27 (0,0)) (by(with_reducible repeat(first|refine Hk ?_ _|refine Hi ?_|refine Hj ?_ _));exact qe.out)):qd≠ya));have vx:=Ha ((by rw [hg];exact Nat.ne_of_gt (blk_lt (g:=qd) (o:=.cells #[.int .i64 0,.int .i64 0,.slice none 0 0] 27 (0,0)) (by(with_reducible repeat(first|refine Hk ?_ _|refine Hi ?_|refine Hj ?_ _));exact qe.out)):ya≠qd));have n11_:=Ha ((by rw [hg];exact Nat.ne_of_lt (blk_lt (g:=qf) (o:=.cells #[.int .i64 0,.int .i64 0,.slice none 0 0] 27 (0,0)) (by(with_reducible repeat(first|refine Hk ?_ _|refine Hi ?_|refine Hj ?_ _));exact qg.out)):qf≠ya));have n12_:=Ha ((by rw [hg];exact Nat.ne_of_gt (blk_lt (g:=qf) (o:=.cells #[.int .i64 0,.int .i64 0,.slice none 0 0] 27 (0,0)) (by(with_reducible repeat(first|refine Hk ?_ _|refine Hi ?_|refine Hj ?_ _));exact qg.out)):ya≠qf));have n13_:=Ha ((by rw [hg];exact Nat.ne_of_lt (IsS84.lt (show IsS84 w0 _ g s0_0 t266 t267 from by repeat(first|(with_reducible first|exact qu.out|apply Hb|apply Hd|apply Hc|apply Hg|apply Hh|refine He ?_ qo.out _|refine He ?_ qq.out _)|exact qu.out))):g≠ya));have n14_:=Ha ((by rw [hg];exact Nat.ne_of_gt (IsS84.lt (show IsS84 w0 _ g s0_0 t266 t267 from by repeat(first|(with_reducible first|exact qu.out|apply Hb|apply Hd|apply Hc|apply Hg|apply Hh|refine He ?_ qo.out _|refine He ?_ qq.out _)|exact qu.out))):ya≠g));clear zn;clear qu;clear qe;clear qg;clear HK;clear HB;have zn:=yt;have qu:=yv;have qe:=ys;have qg:=yw;have HK:=yu;have HB:=yx;have qh:=yy;have yn:=yz;have za:=zd;have yk:=ve;have qn:=vx;have ym:=n11_;have qm:=n12_;have qr:=n13_;have zh:=n14_;clear yt yv ys yw yu yx yy yz zd ve vx n11_ n12_ n13_ n14_;clear hb hbox hg;have hnb14:=qn.out;have hnc14:=yk.out;have hnb15:=qm.out;have hnc15:=ym.out;have hnb16:=zh.out;have hnc16:=qr.out;have hcz17_0:w13.cell? ⟨ya,0,none⟩=some (.int .i64 0):=(Hq qh.out 0).trans rfl;have hcz17_1:w13.cell? ⟨ya,1,none⟩=some (.int .i64 0):=(Hq qh.out 1).trans rfl;have hcz17_2:w13.cell? ⟨ya,2,none⟩=some (.slice none 0 0):=(Hq qh.out 2).trans rfl;have hfz17_0:=Hz qh.out 0;have hfz17_1:=Hz qh.out 1;have hfz17_2:=Hz qh.out 2;obtain⟨yh,yg,eo18⟩:=Kd.R_slice zn.out;subst eo18)|((with_reducible refine HN (f:=92) rfl ?_);refine goesL_ (some 27) rfl rfl Try.func92 (by kernel_rfl) rfl #[.pointer (some ⟨g,0,none⟩),.int .i64 (wrap64 (4*(wrap64 (1+yj)))),.int .i64 (wrap64 (4*(wrap64 (1+yr))))] rfl (by(try simp only [List.map_toArray,List.map_cons,List.map_nil]);first|done|rfl|(simp only [List.length_drop,List.length_take];rfl)) ?_;(with_reducible refine(spec_l14DrawPicture.calls k g s0_0 t266 t267 (wrap64 (4*(wrap64 (1+yj)))) (wrap64 (4*(wrap64 (1+yr)))) vs vt vq t274 t275 w0 _ ?side1 ?side2 A5.out).mono ?_);(case side1=>repeat(first|(with_reducible first|exact qu.out|apply Hb|apply Hd|apply Hc|apply Hg|apply Hh|refine He ?_ qo.out _|refine He ?_ qq.out _|refine He ?_ qr.out _)|exact qu.out));(case side2=>repeat(first|(with_reducible first|exact HB.out|apply HF|apply Hv|apply Hy|refine Hl ?_ (Hf qu.out)|refine Hl ?_ yo.out|refine Hl ?_ yq.out|refine Hl ?_ za.out)|exact HB.out));rintro e w19 ⟨v272,rfl,ho0,hi,hb,hk⟩;refine⟨_,rfl,?_⟩;have yt:=Ha (Hr hk (g':=qd) (o:=.cells #[.int .i64 0,.int .i64 0,.slice none 0 0] 27 (0,0)) (by(with_reducible repeat(first|refine Hk ?_ _|refine Hi ?_|refine Hj ?_ _));refine HE ?_ yk.out _;(with_reducible repeat(first|refine Hk ?_ _|refine Hi ?_|refine Hj ?_ _));refine HE ?_ yk.out _;(with_reducible repeat(first|refine Hk ?_ _|refine Hi ?_|refine Hj ?_ _));refine HE ?_ yk.out _;(with_reducible repeat(first|refine Hk ?_ _|refine Hi ?_|refine Hj ?_ _));exact qe.out) zf.out (by simp));have yv:=Ha (Hr hk (g':=qf) (o:=.cells #[.int .i64 0,.int .i64 0,.slice none 0 0] 27 (0,0)) (by(with_reducible repeat(first|refine Hk ?_ _|refine Hi ?_|refine Hj ?_ _));refine HE ?_ ym.out _;(with_reducible repeat(first|refine Hk ?_ _|refine Hi ?_|refine Hj ?_ _));refine HE ?_ ym.out _;(with_reducible repeat(first|refine Hk ?_ _|refine Hi ?_|refine Hj ?_ _));refine HE ?_ ym.out _;(with_reducible repeat(first|refine Hk ?_ _|refine Hi ?_|refine Hj ?_ _));exact qg.out) zg.out (by simp));have ys:=Ha (HQ (Kd.R_told (Kd.R_oldK (IsS84.apart (show IsS84 w0 _ g s0_0 t266 t267 from by repeat(first|(with_reducible first|exact qu.out|apply Hb|apply Hd|apply Hc|apply Hg|apply Hh|refine He ?_ qo.out _|refine He ?_ qq.out _|refine He ?_ qr.out _)|exact qu.out)) (by(with_reducible repeat(first|apply HS|apply HR|apply HH));exact(HQ (HP (p:=⟨ya,2,none⟩) (HP (p:=⟨ya,1,none⟩) (HP (p:=⟨ya,0,none⟩) (Kd.R_types zn.out qh.out (by decide)) (fun _ hk=>hk.2) (.int .i64 ye)) (fun _ hk=>hk.2) (.int .i64 yd)) (fun _ hk=>hk.2) (.slice yh qz.length yg)) (fun _ h_=>h_.1))) (by decide)) hk) (Kd.R_base ho0)) (fun _ h_=>h_.1));have yw:=Ha (Hr hk (g':=ya) (o:=.cells #[.int .i64 ye,.int .i64 yd,.slice yh qz.length yg] 27 (0,0)) (by(with_reducible repeat(first|refine Hk ?_ _|refine Hi ?_|refine Hj ?_ _));refine HI (cs:=#[.int .i64 ye,.int .i64 yd,.slice none 0 0]) ?_ 2 _ rfl;(with_reducible repeat(first|refine Hk ?_ _|refine Hi ?_|refine Hj ?_ _));refine HI (cs:=#[.int .i64 ye,.int .i64 0,.slice none 0 0]) ?_ 1 _ rfl;(with_reducible repeat(first|refine Hk ?_ _|refine Hi ?_|refine Hj ?_ _));refine HI (cs:=#[.int .i64 0,.int .i64 0,.slice none 0 0]) ?_ 0 _ rfl;(with_reducible repeat(first|refine Hk ?_ _|refine Hi ?_|refine Hj ?_ _));exact qh.out) zh.out (by simp));have yu:=Ha (Kd.R_lower (Kd.R_new' ho0 (Kd.R_lt (by(with_reducible repeat(first|apply HS|apply HR|apply HH));exact(HQ (HP (p:=⟨ya,2,none⟩) (HP (p:=⟨ya,1,none⟩) (HP (p:=⟨ya,0,none⟩) (Kd.R_types zn.out qh.out (by decide)) (fun _ hk=>hk.2) (.int .i64 ye)) (fun _ hk=>hk.2) (.int .i64 yd)) (fun _ hk=>hk.2) (.slice yh qz.length yg)) (fun _ h_=>h_.1))))) (keep_size (w:=w) (g:=g) (row:=none) (by repeat(first|(with_reducible first|exact HK.out|apply Hu|apply Hx|apply Hp|apply Hw|refine Hm ?_ yf.out _|refine Hm ?_ yi.out _|refine Hm ?_ yn.out _)|exact HK.out))));have yx:=Ha (HG (by repeat(first|(with_reducible first|exact HK.out|apply Hu|apply Hx|apply Hp|apply Hw|refine Hm ?_ yf.out _|refine Hm ?_ yi.out _|refine Hm ?_ yn.out _)|exact HK.out)) hk (.inl rfl));have yy:=Ha (hb);have yz:=Ha (hi);clear qe;clear qg;clear zn;clear qh;clear HK;clear HB;clear qu;have qe:=yt;have qg:=yv;have zn:=ys;have qh:=yw;have vj:=yu;have HK:=yx;have HB:=yy;have qu:=yz;clear yt yv ys yw yu yx yy yz;(try clear hb);(try clear hb2);(try clear hk);(try clear hi);(try clear ho0))|((with_reducible refine gate_dst (N:=7) rfl ?_);refine box_event ?hg (N:=7) ?hd (cs:=#[.int .i64 0,.int .i64 0,.slice none 0 0]) (t:=27) ?hr ?_;(case hd=>rfl);(case hg=>rfl);(case hr=>first|(go_simp;done)|(go_simp;rfl));intro qp hg w20 hbox hb;have yt:=Ha (Kd.R_below (by(with_reducible repeat(first|apply HS|apply HR|apply HH));exact zn.out) hb);have yv:=Ha (Kd.R_below (by(with_reducible repeat(first|apply HS|apply HR|apply HH));exact vj.out) hb);have ys:=Ha (IsS84.below (by repeat(first|(with_reducible first|exact qu.out|apply Hb|apply Hd|apply Hc|apply Hg|apply Hh|refine He ?_ qo.out _|refine He ?_ qq.out _|refine He ?_ qr.out _)|exact qu.out)) hb);have yw:=Ha (HO (g:=qd) (o:=.cells #[.int .i64 0,.int .i64 0,.slice none 0 0] 27 (0,0)) (by(with_reducible repeat(first|refine Hk ?_ _|refine Hi ?_|refine Hj ?_ _));exact qe.out) hb);have yu:=Ha (HO (g:=qf) (o:=.cells #[.int .i64 0,.int .i64 0,.slice none 0 0] 27 (0,0)) (by(with_reducible repeat(first|refine Hk ?_ _|refine Hi ?_|refine Hj ?_ _));exact qg.out) hb);have yx:=Ha (HO (g:=ya) (o:=.cells #[.int .i64 ye,.int .i64 yd,.slice yh qz.length yg] 27 (0,0)) (by(with_reducible repeat(first|refine Hk ?_ _|refine Hi ?_|refine Hj ?_ _));exact qh.out) hb);have yy:=Ha (HG (by repeat(first|(with_reducible first|exact HK.out|apply Hu|apply Hx|apply Hp|apply Hw|refine Hm ?_ yf.out _|refine Hm ?_ yi.out _|refine Hm ?_ yn.out _)|exact HK.out)) (KeepBut.of_below hb g none) (.inl rfl));have yz:=Ha (below_step (by repeat(first|(with_reducible first|exact HB.out|apply HF|apply Hv|apply Hy|refine Hl ?_ (Hf qu.out)|refine Hl ?_ yo.out|refine Hl ?_ yq.out|refine Hl ?_ za.out)|exact HB.out)) hb);have zd:=Ha (hbox);have ve:=Ha ((by rw [hg];exact(keep_size (w:=w) (g:=g) (row:=none) (by repeat(first|(with_reducible first|exact HK.out|apply Hu|apply Hx|apply Hp|apply Hw|refine Hm ?_ yf.out _|refine Hm ?_ yi.out _|refine Hm ?_ yn.out _)|exact HK.out))):w.heap.size≤qp));have vx:=Ha ((Nat.le_trans HW0.out (by rw [hg];exact(keep_size (w:=w) (g:=g) (row:=none) (by repeat(first|(with_reducible first|exact HK.out|apply Hu|apply Hx|apply Hp|apply Hw|refine Hm ?_ yf.out _|refine Hm ?_ yi.out _|refine Hm ?_ yn.out _)|exact HK.out))):w.heap.size≤qp):w0.heap.size≤qp));have n11_:=Ha ((by rw [hg];exact Nat.ne_of_lt (blk_lt (g:=qd) (o:=.cells #[.int .i64 0,.int .i64 0,.slice none 0 0] 27 (0,0)) (by(with_reducible repeat(first|refine Hk ?_ _|refine Hi ?_|refine Hj ?_ _));exact qe.out)):qd≠qp));have n12_:=Ha ((by rw [hg];exact Nat.ne_of_gt (blk_lt (g:=qd) (o:=.cells #[.int .i64 0,.int .i64 0,.slice none 0 0] 27 (0,0)) (by(with_reducible repeat(first|refine Hk ?_ _|refine Hi ?_|refine Hj ?_ _));exact qe.out)):qp≠qd));have n13_:=Ha ((by rw [hg];exact Nat.ne_of_lt (blk_lt (g:=qf) (o:=.cells #[.int .i64 0,.int .i64 0,.slice none 0 0] 27 (0,0)) (by(with_reducible repeat(first|refine Hk ?_ _|refine Hi ?_|refine Hj ?_ _));exact qg.out)):qf≠qp));have n14_:=Ha ((by rw [hg];exact Nat.ne_of_gt (blk_lt (g:=qf) (o:=.cells #[.int .i64 0,.int .i64 0,.slice none 0 0] 27 (0,0)) (by(with_reducible repeat(first|refine Hk ?_ _|refine Hi ?_|refine Hj ?_ _));exact qg.out)):qp≠qf));have n15_:=Ha ((by rw [hg];exact Nat.ne_of_lt (blk_lt (g:=ya) (o:=.cells #[.int .i64 ye,.int .i64 yd,.slice yh qz.length yg] 27 (0,0)) (by(with_reducible repeat(first|refine Hk ?_ _|refine Hi ?_|refine Hj ?_ _));exact qh.out)):ya≠qp));have n16_:=Ha ((by rw [hg];exact Nat.ne_of_gt (blk_lt (g:=ya) (o:=.cells #[.int .i64 ye,.int .i64 yd,.slice yh qz.length yg] 27 (0,0)) (by(with_reducible repeat(first|refine Hk ?_ _|refine Hi ?_|refine Hj ?_ _));exact qh.out)):qp≠ya));have n17_:=Ha ((by rw [hg];exact Nat.ne_of_lt (IsS84.lt (show IsS84 w0 _ g s0_0 t274 t275 from by repeat(first|(with_reducible first|exact qu.out|apply Hb|apply Hd|apply Hc|apply Hg|apply Hh|refine He ?_ qo.out _|refine He ?_ qq.out _|refine He ?_ qr.out _)|exact qu.out))):g≠qp));have n18_:=Ha ((by rw [hg];exact Nat.ne_of_gt (IsS84.lt (show IsS84 w0 _ g s0_0 t274 t275 from by repeat(first|(with_reducible first|exact qu.out|apply Hb|apply Hd|apply Hc|apply Hg|apply Hh|refine He ?_ qo.out _|refine He ?_ qq.out _|refine He ?_ qr.out _)|exact qu.out))):qp≠g));clear zn;clear vj;clear qu;clear qe;clear qg;clear qh;clear HK;clear HB;have zn:=yt;have vj:=yv;have qu:=ys;have qe:=yw;have qg:=yu;have qh:=yx;have HK:=yy;have HB:=yz;have qc:=zd;have yp:=ve;have ze:=vx;have yc:=n11_;have qk:=n12_;have yb:=n13_;have ql:=n14_;have zb:=n15_;have zr:=n16_;have qt:=n17_;have zc:=n18_;clear yt yv ys yw yu yx yy yz zd ve vx n11_ n12_ n13_ n14_ n15_ n16_ n17_ n18_;clear hb hbox hg;have hnb21:=qk.out;have hnc21:=yc.out;have hnb22:=ql.out;have hnc22:=yb.out;have hnb23:=zr.out;have hnc23:=zb.out;have hnb24:=zc.out;have hnc24:=qt.out;have hcz25_0:w20.cell? ⟨qp,0,none⟩=some (.int .i64 0):=(Hq qc.out 0).trans rfl;have hcz25_1:w20.cell? ⟨qp,1,none⟩=some (.int .i64 0):=(Hq qc.out 1).trans rfl;have hcz25_2:w20.cell? ⟨qp,2,none⟩=some (.slice none 0 0):=(Hq qc.out 2).trans rfl;have hfz25_0:=Hz qc.out 0;have hfz25_1:=Hz qc.out 1;have hfz25_2:=Hz qc.out 2;obtain⟨Ao26,co26,eo26⟩:=Kd.R_slice vj.out;subst eo26)|((with_reducible refine HN (f:=64) rfl ?_);refine goesL_ (some 29) rfl rfl Try.func64 (by kernel_rfl) rfl #[.pointer (some ⟨g,0,none⟩),.int .i64 2] rfl (by(try simp only [List.map_toArray,List.map_cons,List.map_nil]);first|done|rfl|(simp only [List.length_drop,List.length_take];rfl)) ?_;(with_reducible refine(spec_l1Once.calls g s0_0 t274 t275 2 t277 t278 t279 w0 _ ?side1 ?side2 A6.out).mono ?_);(case side1=>repeat(first|(with_reducible first|exact qu.out|apply Hb|apply Hd|apply Hc|apply Hg|apply Hh|refine He ?_ qo.out _|refine He ?_ qq.out _|refine He ?_ qr.out _|refine He ?_ qt.out _)|exact qu.out));(case side2=>repeat(first|(with_reducible first|exact HB.out|apply HF|apply Hv|apply Hy|refine Hl ?_ (Hf qu.out)|refine Hl ?_ yo.out|refine Hl ?_ yq.out|refine Hl ?_ za.out|refine Hl ?_ ze.out)|exact HB.out));rintro e w27 ⟨rfl,hi,hb,hk⟩;refine⟨_,rfl,?_⟩;have yt:=Ha (Hr hk (g':=qd) (o:=.cells #[.int .i64 0,.int .i64 0,.slice none 0 0] 27 (0,0)) (by(with_reducible repeat(first|refine Hk ?_ _|refine Hi ?_|refine Hj ?_ _));refine HE ?_ yc.out _;(with_reducible repeat(first|refine Hk ?_ _|refine Hi ?_|refine Hj ?_ _));refine HE ?_ yc.out _;(with_reducible repeat(first|refine Hk ?_ _|refine Hi ?_|refine Hj ?_ _));refine HE ?_ yc.out _;(with_reducible repeat(first|refine Hk ?_ _|refine Hi ?_|refine Hj ?_ _));exact qe.out) zf.out (by simp));have yv:=Ha (Hr hk (g':=qf) (o:=.cells #[.int .i64 0,.int .i64 0,.slice none 0 0] 27 (0,0)) (by(with_reducible repeat(first|refine Hk ?_ _|refine Hi ?_|refine Hj ?_ _));refine HE ?_ yb.out _;(with_reducible repeat(first|refine Hk ?_ _|refine Hi ?_|refine Hj ?_ _));refine HE ?_ yb.out _;(with_reducible repeat(first|refine Hk ?_ _|refine Hi ?_|refine Hj ?_ _));refine HE ?_ yb.out _;(with_reducible repeat(first|refine Hk ?_ _|refine Hi ?_|refine Hj ?_ _));exact qg.out) zg.out (by simp));have ys:=Ha (HQ (Kd.R_keep (IsS84.apart (show IsS84 w0 _ g s0_0 t274 t275 from by repeat(first|(with_reducible first|exact qu.out|apply Hb|apply Hd|apply Hc|apply Hg|apply Hh|refine He ?_ qo.out _|refine He ?_ qq.out _|refine He ?_ qr.out _|refine He ?_ qt.out _)|exact qu.out)) (by(with_reducible repeat(first|apply HS|apply HR|apply HH));exact(HQ (HP (p:=⟨qp,2,none⟩) (HP (p:=⟨qp,1,none⟩) (HP (p:=⟨qp,0,none⟩) (Kd.R_types zn.out qc.out (by decide)) (fun _ hk=>hk.2) (.int .i64 vs)) (fun _ hk=>hk.2) (.int .i64 vt)) (fun _ hk=>hk.2) (.slice Ao26 vq.length co26)) (fun _ h_=>h_.1))) (by decide)) hk (fun _ h=>h.2)) (fun _ h=>h.1));have yw:=Ha (Hr hk (g':=ya) (o:=.cells #[.int .i64 ye,.int .i64 yd,.slice yh qz.length yg] 27 (0,0)) (by(with_reducible repeat(first|refine Hk ?_ _|refine Hi ?_|refine Hj ?_ _));refine HE ?_ zb.out _;(with_reducible repeat(first|refine Hk ?_ _|refine Hi ?_|refine Hj ?_ _));refine HE ?_ zb.out _;(with_reducible repeat(first|refine Hk ?_ _|refine Hi ?_|refine Hj ?_ _));refine HE ?_ zb.out _;(with_reducible repeat(first|refine Hk ?_ _|refine Hi ?_|refine Hj ?_ _));exact qh.out) zh.out (by simp));have yu:=Ha (HQ (Kd.R_keep (IsS84.apart (show IsS84 w0 _ g s0_0 t274 t275 from by repeat(first|(with_reducible first|exact qu.out|apply Hb|apply Hd|apply Hc|apply Hg|apply Hh|refine He ?_ qo.out _|refine He ?_ qq.out _|refine He ?_ qr.out _|refine He ?_ qt.out _)|exact qu.out)) (by(with_reducible repeat(first|apply HS|apply HR|apply HH));exact(HQ (HP (p:=⟨qp,2,none⟩) (HP (p:=⟨qp,1,none⟩) (HP (p:=⟨qp,0,none⟩) (Kd.R_types vj.out qc.out (by decide)) (fun _ hk=>hk.2) (.int .i64 vs)) (fun _ hk=>hk.2) (.int .i64 vt)) (fun _ hk=>hk.2) (.slice Ao26 vq.length co26)) (fun _ h_=>h_.1))) (by decide)) hk (fun _ h=>h.2)) (fun _ h=>h.1));have yx:=Ha (Hr hk (g':=qp) (o:=.cells #[.int .i64 vs,.int .i64 vt,.slice Ao26 vq.length co26] 27 (0,0)) (by(with_reducible repeat(first|refine Hk ?_ _|refine Hi ?_|refine Hj ?_ _));refine HI (cs:=#[.int .i64 vs,.int .i64 vt,.slice none 0 0]) ?_ 2 _ rfl;(with_reducible repeat(first|refine Hk ?_ _|refine Hi ?_|refine Hj ?_ _));refine HI (cs:=#[.int .i64 vs,.int .i64 0,.slice none 0 0]) ?_ 1 _ rfl;(with_reducible repeat(first|refine Hk ?_ _|refine Hi ?_|refine Hj ?_ _));refine HI (cs:=#[.int .i64 0,.int .i64 0,.slice none 0 0]) ?_ 0 _ rfl;(with_reducible repeat(first|refine Hk ?_ _|refine Hi ?_|refine Hj ?_ _));exact qc.out) zc.out (by simp));have yy:=Ha (HG (by repeat(first|(with_reducible first|exact HK.out|apply Hu|apply Hx|apply Hp|apply Hw|refine Hm ?_ yf.out _|refine Hm ?_ yi.out _|refine Hm ?_ yn.out _|refine Hm ?_ yp.out _)|exact HK.out)) hk (.inl rfl));have yz:=Ha (hb);have zd:=Ha (hi);clear qe;clear qg;clear zn;clear qh;clear vj;clear qc;clear HK;clear HB;clear qu;have qe:=yt;have qg:=yv;have zn:=ys;have qh:=yw;have vj:=yu;have qc:=yx;have HK:=yy;have HB:=yz;have qu:=zd;clear yt yv ys yw yu yx yy yz zd;(try clear hb);(try clear hb2);(try clear hk);(try clear hi)))
 (try simp only [Act.put,List.setIfInBounds_toArray,List.set_cons_zero,List.set_cons_succ])
 go_cut [] (fun wc=>∃ (kq:Nat) (zj:Int) (zi:Int) (qi:Int) (qj:Int) (qs:List Int) (qy:Value),Aside0 (spec_l14DrawTwo.j1 kq (wrap64 (4*(wrap64 (1+yj)))) (wrap64 (4*(wrap64 (1+yr)))) s0_0 zj zi ye yd qz qi qj qs=some (r1,r2,r3,r4,r5,r6,r7,r8))∧Aside0 (kq≤k)∧Aside0 (Kd.Q (Kd.int .i64) 2 wc w.heap.size (fun k_=>some k_≠(qy:Value).ownBlock) (.slice yh qz.length yg) qz)∧Aside0 (Kd.Q (Kd.int .i64) 2 wc w.heap.size (fun k_=>some k_≠((.slice yh qz.length yg):Value).ownBlock) qy qs)∧Aside0 (wc.heap[qd]? = some (.cells #[.int .i64 0,.int .i64 0,(.slice none 0 0)] 27 (0,0)))∧Aside0 (wc.heap[qf]? = some (.cells #[.int .i64 0,.int .i64 0,(.slice none 0 0)] 27 (0,0)))∧Aside0 (wc.heap[ya]? = some (.cells #[.int .i64 ye,.int .i64 yd,(.slice yh qz.length yg)] 27 (0,0)))∧Aside0 (wc.heap[qp]? = some (.cells #[.int .i64 qi,.int .i64 qj,qy] 27 (0,0)))∧Aside0 (IsS84 w0 wc g s0_0 zj zi)∧Aside0 (KeepBut w wc g none)∧Aside0 (Below w0.heap.size w0 wc))
 case first=>
  have H:=HC7.out
  clear HC7
  by_cases c28:t277=true
  ·subst c28
   have H1:((spec_l1From.f s0_0 t278 t279 (-2) 2).bind fun bt280=>((spec_l1From.f s0_0 bt280.2.1 bt280.2.2 (-2) 2).bind fun bt283=>(spec_l14DrawTwo.l0 k (wrap64 (4*(wrap64 (1+yj)))) (wrap64 (4*(wrap64 (1+yr)))) bt280.1 bt283.1 0 s0_0 bt283.2.1 bt283.2.2 ye yd qz (wrap64 (4*(wrap64 (1+yj)))) (wrap64 (4*(wrap64 (1+yr)))) ([]:List Int))))=some (r1,r2,r3,r4,r5,r6,r7,r8):=by rw [if_pos rfl] at H;exact H
   clear H
   have H:=H1
   clear H1
   replace H:=Option.bind_eq_some_iff.mp H
   obtain⟨⟨vn,t281,t282⟩,A290,H⟩:=H
   replace H:((spec_l1From.f s0_0 t281 t282 (-2) 2).bind fun bt283=>(spec_l14DrawTwo.l0 k (wrap64 (4*(wrap64 (1+yj)))) (wrap64 (4*(wrap64 (1+yr)))) vn bt283.1 0 s0_0 bt283.2.1 bt283.2.2 ye yd qz (wrap64 (4*(wrap64 (1+yj)))) (wrap64 (4*(wrap64 (1+yr)))) ([]:List Int)))=some (r1,r2,r3,r4,r5,r6,r7,r8):=H
   have A29:=Ha A290
   clear A290
   replace H:=Option.bind_eq_some_iff.mp H
   obtain⟨⟨vo,t284,t285⟩,A300,H⟩:=H
   replace H:(spec_l14DrawTwo.l0 k (wrap64 (4*(wrap64 (1+yj)))) (wrap64 (4*(wrap64 (1+yr)))) vn vo 0 s0_0 t284 t285 ye yd qz (wrap64 (4*(wrap64 (1+yj)))) (wrap64 (4*(wrap64 (1+yr)))) ([]:List Int))=some (r1,r2,r3,r4,r5,r6,r7,r8):=H
   have A30:=Ha A300
   clear A300
   have H':=Ha H
   clear H
   have hnb31:=qk.out
   have hnc31:=yc.out
   have hnb32:=ql.out
   have hnc32:=yb.out
   have hnb33:=zr.out
   have hnc33:=zb.out
   have hnb34:=zc.out
   have hnc34:=qt.out
   have hcz35_0:w27.cell? ⟨qp,0,none⟩=some (.int .i64 vs):=(Hq qc.out 0).trans rfl
   have hcz35_1:w27.cell? ⟨qp,1,none⟩=some (.int .i64 vt):=(Hq qc.out 1).trans rfl
   have hcz35_2:w27.cell? ⟨qp,2,none⟩=some (.slice Ao26 vq.length co26):=(Hq qc.out 2).trans rfl
   have hfz35_0:=Hz qc.out 0
   have hfz35_1:=Hz qc.out 1
   have hfz35_2:=Hz qc.out 2
   go_wp2_with (first|((with_reducible refine HN (f:=63) rfl ?_);refine goesL_ (some 34) rfl rfl Try.func63 (by kernel_rfl) rfl #[.pointer (some ⟨g,0,none⟩),.int .i64 (-2),.int .i64 2] rfl (by(try simp only [List.map_toArray,List.map_cons,List.map_nil]);first|done|rfl|(simp only [List.length_drop,List.length_take];rfl)) ?_;(with_reducible refine(spec_l1From.calls g s0_0 t278 t279 (-2) 2 vn t281 t282 w0 _ ?side1 ?side2 A29.out).mono ?_);(case side1=>repeat(first|(with_reducible first|exact qu.out|apply Hb|apply Hd|apply Hc|apply Hg|apply Hh|refine He ?_ qo.out _|refine He ?_ qq.out _|refine He ?_ qr.out _|refine He ?_ qt.out _)|exact qu.out));(case side2=>repeat(first|(with_reducible first|exact HB.out|apply HF|apply Hv|apply Hy|refine Hl ?_ (Hf qu.out)|refine Hl ?_ yo.out|refine Hl ?_ yq.out|refine Hl ?_ za.out|refine Hl ?_ ze.out)|exact HB.out));rintro e w36 ⟨rfl,hi,hb,hk⟩;refine⟨_,rfl,?_⟩;have yt:=Ha (Hr hk (g':=qd) (o:=.cells #[.int .i64 0,.int .i64 0,.slice none 0 0] 27 (0,0)) (by(with_reducible repeat(first|refine Hk ?_ _|refine Hi ?_|refine Hj ?_ _));refine HE ?_ yc.out _;(with_reducible repeat(first|refine Hk ?_ _|refine Hi ?_|refine Hj ?_ _));refine HE ?_ yc.out _;(with_reducible repeat(first|refine Hk ?_ _|refine Hi ?_|refine Hj ?_ _));refine HE ?_ yc.out _;(with_reducible repeat(first|refine Hk ?_ _|refine Hi ?_|refine Hj ?_ _));exact qe.out) zf.out (by simp));have yv:=Ha (Hr hk (g':=qf) (o:=.cells #[.int .i64 0,.int .i64 0,.slice none 0 0] 27 (0,0)) (by(with_reducible repeat(first|refine Hk ?_ _|refine Hi ?_|refine Hj ?_ _));refine HE ?_ yb.out _;(with_reducible repeat(first|refine Hk ?_ _|refine Hi ?_|refine Hj ?_ _));refine HE ?_ yb.out _;(with_reducible repeat(first|refine Hk ?_ _|refine Hi ?_|refine Hj ?_ _));refine HE ?_ yb.out _;(with_reducible repeat(first|refine Hk ?_ _|refine Hi ?_|refine Hj ?_ _));exact qg.out) zg.out (by simp));have ys:=Ha (HQ (Kd.R_keep (IsS84.apart (show IsS84 w0 _ g s0_0 t278 t279 from by repeat(first|(with_reducible first|exact qu.out|apply Hb|apply Hd|apply Hc|apply Hg|apply Hh|refine He ?_ qo.out _|refine He ?_ qq.out _|refine He ?_ qr.out _|refine He ?_ qt.out _)|exact qu.out)) (by(with_reducible repeat(first|apply HS|apply HR|apply HH));exact(HQ (HP (p:=⟨qp,2,none⟩) (HP (p:=⟨qp,1,none⟩) (HP (p:=⟨qp,0,none⟩) (Kd.R_types zn.out qc.out (by decide)) (fun _ hk=>hk.2) (.int .i64 (wrap64 (4*(wrap64 (1+yj)))))) (fun _ hk=>hk.2) (.int .i64 (wrap64 (4*(wrap64 (1+yr)))))) (fun _ hk=>hk.2) (.slice none 0 0)) (fun _ h_=>h_.1))) (by decide)) hk (fun _ h=>h.2)) (fun _ h=>h.1));have yw:=Ha (Hr hk (g':=ya) (o:=.cells #[.int .i64 ye,.int .i64 yd,.slice yh qz.length yg] 27 (0,0)) (by(with_reducible repeat(first|refine Hk ?_ _|refine Hi ?_|refine Hj ?_ _));refine HE ?_ zb.out _;(with_reducible repeat(first|refine Hk ?_ _|refine Hi ?_|refine Hj ?_ _));refine HE ?_ zb.out _;(with_reducible repeat(first|refine Hk ?_ _|refine Hi ?_|refine Hj ?_ _));refine HE ?_ zb.out _;(with_reducible repeat(first|refine Hk ?_ _|refine Hi ?_|refine Hj ?_ _));exact qh.out) zh.out (by simp));have yu:=Ha (HQ (Kd.R_keep (IsS84.apart (show IsS84 w0 _ g s0_0 t278 t279 from by repeat(first|(with_reducible first|exact qu.out|apply Hb|apply Hd|apply Hc|apply Hg|apply Hh|refine He ?_ qo.out _|refine He ?_ qq.out _|refine He ?_ qr.out _|refine He ?_ qt.out _)|exact qu.out)) (by(with_reducible repeat(first|apply HS|apply HR|apply HH));exact(HQ (HP (p:=⟨qp,2,none⟩) (HP (p:=⟨qp,1,none⟩) (HP (p:=⟨qp,0,none⟩) (Kd.R_types vj.out qc.out (by decide)) (fun _ hk=>hk.2) (.int .i64 (wrap64 (4*(wrap64 (1+yj)))))) (fun _ hk=>hk.2) (.int .i64 (wrap64 (4*(wrap64 (1+yr)))))) (fun _ hk=>hk.2) (.slice none 0 0)) (fun _ h_=>h_.1))) (by decide)) hk (fun _ h=>h.2)) (fun _ h=>h.1));have yx:=Ha (Hr hk (g':=qp) (o:=.cells #[.int .i64 (wrap64 (4*(wrap64 (1+yj)))),.int .i64 (wrap64 (4*(wrap64 (1+yr)))),.slice none 0 0] 27 (0,0)) (by(with_reducible repeat(first|refine Hk ?_ _|refine Hi ?_|refine Hj ?_ _));refine HI (cs:=#[.int .i64 (wrap64 (4*(wrap64 (1+yj)))),.int .i64 (wrap64 (4*(wrap64 (1+yr)))),.slice Ao26 vq.length co26]) ?_ 2 _ rfl;(with_reducible repeat(first|refine Hk ?_ _|refine Hi ?_|refine Hj ?_ _));refine HI (cs:=#[.int .i64 (wrap64 (4*(wrap64 (1+yj)))),.int .i64 vt,.slice Ao26 vq.length co26]) ?_ 1 _ rfl;(with_reducible repeat(first|refine Hk ?_ _|refine Hi ?_|refine Hj ?_ _));refine HI (cs:=#[.int .i64 vs,.int .i64 vt,.slice Ao26 vq.length co26]) ?_ 0 _ rfl;(with_reducible repeat(first|refine Hk ?_ _|refine Hi ?_|refine Hj ?_ _));exact qc.out) zc.out (by simp));have yy:=Ha (HG (by repeat(first|(with_reducible first|exact HK.out|apply Hu|apply Hx|apply Hp|apply Hw|refine Hm ?_ yf.out _|refine Hm ?_ yi.out _|refine Hm ?_ yn.out _|refine Hm ?_ yp.out _)|exact HK.out)) hk (.inl rfl));have yz:=Ha (hb);have zd:=Ha (hi);clear qe;clear qg;clear zn;clear qh;clear vj;clear qc;clear HK;clear HB;clear qu;have qe:=yt;have qg:=yv;have zn:=ys;have qh:=yw;have vj:=yu;have qc:=yx;have HK:=yy;have HB:=yz;have qu:=zd;clear yt yv ys yw yu yx yy yz zd;(try clear hb);(try clear hb2);(try clear hk);(try clear hi))|((with_reducible refine HN (f:=63) rfl ?_);refine goesL_ (some 36) rfl rfl Try.func63 (by kernel_rfl) rfl #[.pointer (some ⟨g,0,none⟩),.int .i64 (-2),.int .i64 2] rfl (by(try simp only [List.map_toArray,List.map_cons,List.map_nil]);first|done|rfl|(simp only [List.length_drop,List.length_take];rfl)) ?_;(with_reducible refine(spec_l1From.calls g s0_0 t281 t282 (-2) 2 vo t284 t285 w0 _ ?side1 ?side2 A30.out).mono ?_);(case side1=>repeat(first|(with_reducible first|exact qu.out|apply Hb|apply Hd|apply Hc|apply Hg|apply Hh|refine He ?_ qo.out _|refine He ?_ qq.out _|refine He ?_ qr.out _|refine He ?_ qt.out _)|exact qu.out));(case side2=>repeat(first|(with_reducible first|exact HB.out|apply HF|apply Hv|apply Hy|refine Hl ?_ (Hf qu.out)|refine Hl ?_ yo.out|refine Hl ?_ yq.out|refine Hl ?_ za.out|refine Hl ?_ ze.out)|exact HB.out));rintro e w37 ⟨rfl,hi,hb,hk⟩;refine⟨_,rfl,?_⟩;have yt:=Ha (Hr hk (g':=qd) (o:=.cells #[.int .i64 0,.int .i64 0,.slice none 0 0] 27 (0,0)) (by(with_reducible repeat(first|refine Hk ?_ _|refine Hi ?_|refine Hj ?_ _));exact qe.out) zf.out (by simp));have yv:=Ha (Hr hk (g':=qf) (o:=.cells #[.int .i64 0,.int .i64 0,.slice none 0 0] 27 (0,0)) (by(with_reducible repeat(first|refine Hk ?_ _|refine Hi ?_|refine Hj ?_ _));exact qg.out) zg.out (by simp));have ys:=Ha (HQ (Kd.R_keep (IsS84.apart (show IsS84 w0 _ g s0_0 t281 t282 from by repeat(first|(with_reducible first|exact qu.out|apply Hb|apply Hd|apply Hc|apply Hg|apply Hh|refine He ?_ qo.out _|refine He ?_ qq.out _|refine He ?_ qr.out _|refine He ?_ qt.out _)|exact qu.out)) (by(with_reducible repeat(first|apply HS|apply HR|apply HH));exact zn.out) (by decide)) hk (fun _ h=>h.2)) (fun _ h=>h.1));have yw:=Ha (Hr hk (g':=ya) (o:=.cells #[.int .i64 ye,.int .i64 yd,.slice yh qz.length yg] 27 (0,0)) (by(with_reducible repeat(first|refine Hk ?_ _|refine Hi ?_|refine Hj ?_ _));exact qh.out) zh.out (by simp));have yu:=Ha (HQ (Kd.R_keep (IsS84.apart (show IsS84 w0 _ g s0_0 t281 t282 from by repeat(first|(with_reducible first|exact qu.out|apply Hb|apply Hd|apply Hc|apply Hg|apply Hh|refine He ?_ qo.out _|refine He ?_ qq.out _|refine He ?_ qr.out _|refine He ?_ qt.out _)|exact qu.out)) (by(with_reducible repeat(first|apply HS|apply HR|apply HH));exact vj.out) (by decide)) hk (fun _ h=>h.2)) (fun _ h=>h.1));have yx:=Ha (Hr hk (g':=qp) (o:=.cells #[.int .i64 (wrap64 (4*(wrap64 (1+yj)))),.int .i64 (wrap64 (4*(wrap64 (1+yr)))),.slice none 0 0] 27 (0,0)) (by(with_reducible repeat(first|refine Hk ?_ _|refine Hi ?_|refine Hj ?_ _));exact qc.out) zc.out (by simp));have yy:=Ha (HG (by repeat(first|(with_reducible first|exact HK.out|apply Hu|apply Hx|apply Hp|apply Hw|refine Hm ?_ yf.out _|refine Hm ?_ yi.out _|refine Hm ?_ yn.out _|refine Hm ?_ yp.out _)|exact HK.out)) hk (.inl rfl));have yz:=Ha (hb);have zd:=Ha (hi);clear qe;clear qg;clear zn;clear qh;clear vj;clear qc;clear HK;clear HB;clear qu;have qe:=yt;have qg:=yv;have zn:=ys;have qh:=yw;have vj:=yu;have qc:=yx;have HK:=yy;have HB:=yz;have qu:=zd;clear yt yv ys yw yu yx yy yz zd;(try clear hb);(try clear hb2);(try clear hk);(try clear hi)))
   go_loopg [10] k (fun kq v10 w'=>∃ (zm:Int) (zt:Int) (zw:Int) (yl:List Int) (qy:Value),v10=.int .i64 zm∧Aside0 (spec_l14DrawTwo.l0 kq (wrap64 (4*(wrap64 (1+yj)))) (wrap64 (4*(wrap64 (1+yr)))) vn vo zm s0_0 zt zw ye yd qz (wrap64 (4*(wrap64 (1+yj)))) (wrap64 (4*(wrap64 (1+yr)))) yl=some (r1,r2,r3,r4,r5,r6,r7,r8))∧Aside0 (kq≤k)∧Aside0 (Kd.Q (Kd.int .i64) 2 w' w.heap.size (fun k_=>some k_≠(qy:Value).ownBlock) (.slice yh qz.length yg) qz)∧Aside0 (Kd.Q (Kd.int .i64) 2 w' w.heap.size (fun k_=>some k_≠((.slice yh qz.length yg):Value).ownBlock) qy yl)∧Aside0 (w'.heap[qd]? = some (.cells #[.int .i64 0,.int .i64 0,(.slice none 0 0)] 27 (0,0)))∧Aside0 (w'.heap[qf]? = some (.cells #[.int .i64 0,.int .i64 0,(.slice none 0 0)] 27 (0,0)))∧Aside0 (w'.heap[ya]? = some (.cells #[.int .i64 ye,.int .i64 yd,(.slice yh qz.length yg)] 27 (0,0)))∧Aside0 (w'.heap[qp]? = some (.cells #[.int .i64 (wrap64 (4*(wrap64 (1+yj)))),.int .i64 (wrap64 (4*(wrap64 (1+yr)))),qy] 27 (0,0)))∧Aside0 (IsS84 w0 w' g s0_0 zt zw)∧Aside0 (KeepBut w w' g none)∧Aside0 (Below w0.heap.size w0 w'))
   case atStart=>exact⟨(0),(t284),(t285),(([]:List Int)),(.slice none 0 0),(by first|rfl|(simp;done)|(simp [*];done)),H',⟨Nat.le_refl _⟩,⟨Kd.Q_of_R (by(with_reducible repeat(first|apply HS|apply HR|apply HH));exact HQ zn.out (fun _ hk=>(by simp [Value.ownBlock])))⟩,⟨Kd.Q_of_R (by first|exact Kd.R_nil _ _ _ _ _|exact Kd.N_nil _ _ _ _ _|exact Kd.V_nil _ _ _ _ _|exact Kd.Q_nil _ _ _ _ _|exact Kd.S_nil _ _ _ _ _)⟩,⟨by(with_reducible repeat(first|refine Hk ?_ _|refine Hi ?_|refine Hj ?_ _));exact qe.out⟩,⟨by(with_reducible repeat(first|refine Hk ?_ _|refine Hi ?_|refine Hj ?_ _));exact qg.out⟩,⟨by(with_reducible repeat(first|refine Hk ?_ _|refine Hi ?_|refine Hj ?_ _));exact qh.out⟩,⟨by(with_reducible repeat(first|refine Hk ?_ _|refine Hi ?_|refine Hj ?_ _));exact qc.out⟩,⟨by repeat(first|(with_reducible first|exact qu.out|apply Hb|apply Hd|apply Hc|apply Hg|apply Hh|refine He ?_ qo.out _|refine He ?_ qq.out _|refine He ?_ qr.out _|refine He ?_ qt.out _)|exact qu.out)⟩,⟨by repeat(first|(with_reducible first|exact HK.out|apply Hu|apply Hx|apply Hp|apply Hw|refine Hm ?_ yf.out _|refine Hm ?_ yi.out _|refine Hm ?_ yn.out _|refine Hm ?_ yp.out _)|exact HK.out)⟩,⟨by repeat(first|(with_reducible first|exact HB.out|apply HF|apply Hv|apply Hy|refine Hl ?_ (Hf qu.out)|refine Hl ?_ yo.out|refine Hl ?_ yq.out|refine Hl ?_ za.out|refine Hl ?_ ze.out)|exact HB.out)⟩⟩
   case round=>
    clear H'
    try clear c1
    try clear c2
    try clear p2
    try clear c3
    try clear c6
    try clear p6
    try clear c7
    try clear c9
    try clear c14
    try clear c15
    try clear c16
    try clear c21
    try clear c22
    try clear c23
    try clear c24
    try clear c28
    try clear c31
    try clear c32
    try clear c33
    try clear c34
    try clear hcz17_0
    try clear hcz17_1
    try clear hcz17_2
    try clear hcz25_0
    try clear hcz25_1
    try clear hcz25_2
    try clear hcz35_0
    try clear hcz35_1
    try clear hcz35_2
    try clear hfz17_0
    try clear hfz17_1
    try clear hfz17_2
    try clear hfz25_0
    try clear hfz25_1
    try clear hfz25_2
    try clear hfz35_0
    try clear hfz35_1
    try clear hfz35_2
    obtain⟨zm,zt,zw,yl,qy,rfl,HA,HK1,qb,qa,qe,qg,qh,qc,qu,HK,HB⟩:=hrel
    cases gk with
    | zero => exact absurd HA.out (by simp [spec_l14DrawTwo.l0])
    | succ k1 =>
     have H:=HA.out
     clear HA
     simp only [spec_l14DrawTwo.l0] at H
     by_cases c38:zm < (wrap64 ((wrap64 (4*(wrap64 (1+yj))))*(wrap64 (4*(wrap64 (1+yr))))))
     ·rw [if_pos c38] at H
      have xb:decide (zm < (wrap64 ((wrap64 (4*(wrap64 (1+yj))))*(wrap64 (4*(wrap64 (1+yr)))))))=true:=decide_eq_true c38
      clear c38
      (first|rw [xb]|(simp only [i64_w,i32_w];rw [xb])|skip)
      by_cases c39:(wrap64 (4*(wrap64 (1+yj))))=0
      ·rw [if_pos c39] at H
       exact absurd H (by simp)
      ·rw [if_neg c39] at H
       have c39b0:((wrap64 (4*(wrap64 (1+yj)))) == 0)=false:=beq_eq_false_iff_ne.mpr c39
       have c39b1:((wrap64 (4*(wrap64 (1+yj)))) != 0)=true:=bne_iff_ne.mpr c39
       replace H:=Option.bind_eq_some_iff.mp H
       obtain⟨vy,A400,H⟩:=H
       replace H:((spec_l1Once.f s0_0 zt zw 9).bind fun bt287=>(if bt287.1=true then ((spec_l1Below.f s0_0 bt287.2.1 bt287.2.2 256).bind fun bt290=>(if yl.length < 17592186044416 then (spec_l14DrawTwo.l0 k1 (wrap64 (4*(wrap64 (1+yj)))) (wrap64 (4*(wrap64 (1+yr)))) vn vo (wrap64 (zm+1)) s0_0 bt290.2.1 bt290.2.2 ye yd qz (wrap64 (4*(wrap64 (1+yj)))) (wrap64 (4*(wrap64 (1+yr)))) (yl ++ [bt290.1])) else (none))) else (if yl.length < 17592186044416 then (spec_l14DrawTwo.l0 k1 (wrap64 (4*(wrap64 (1+yj)))) (wrap64 (4*(wrap64 (1+yr)))) vn vo (wrap64 (zm+1)) s0_0 bt287.2.1 bt287.2.2 ye yd qz (wrap64 (4*(wrap64 (1+yj)))) (wrap64 (4*(wrap64 (1+yr)))) (yl ++ [vy])) else (none))))=some (r1,r2,r3,r4,r5,r6,r7,r8):=H
       have A40:=Ha A400
       clear A400
       replace H:=Option.bind_eq_some_iff.mp H
       obtain⟨⟨t287,vv,vu⟩,A410,H⟩:=H
       replace H:(if t287=true then ((spec_l1Below.f s0_0 vv vu 256).bind fun bt290=>(if yl.length < 17592186044416 then (spec_l14DrawTwo.l0 k1 (wrap64 (4*(wrap64 (1+yj)))) (wrap64 (4*(wrap64 (1+yr)))) vn vo (wrap64 (zm+1)) s0_0 bt290.2.1 bt290.2.2 ye yd qz (wrap64 (4*(wrap64 (1+yj)))) (wrap64 (4*(wrap64 (1+yr)))) (yl ++ [bt290.1])) else (none))) else (if yl.length < 17592186044416 then (spec_l14DrawTwo.l0 k1 (wrap64 (4*(wrap64 (1+yj)))) (wrap64 (4*(wrap64 (1+yr)))) vn vo (wrap64 (zm+1)) s0_0 vv vu ye yd qz (wrap64 (4*(wrap64 (1+yj)))) (wrap64 (4*(wrap64 (1+yr)))) (yl ++ [vy])) else (none)))=some (r1,r2,r3,r4,r5,r6,r7,r8):=H
       have A41:=Ha A410
       clear A410
       by_cases c42:t287=true
       ·subst c42
        have H1:((spec_l1Below.f s0_0 vv vu 256).bind fun bt290=>(if yl.length < 17592186044416 then (spec_l14DrawTwo.l0 k1 (wrap64 (4*(wrap64 (1+yj)))) (wrap64 (4*(wrap64 (1+yr)))) vn vo (wrap64 (zm+1)) s0_0 bt290.2.1 bt290.2.2 ye yd qz (wrap64 (4*(wrap64 (1+yj)))) (wrap64 (4*(wrap64 (1+yr)))) (yl ++ [bt290.1])) else (none)))=some (r1,r2,r3,r4,r5,r6,r7,r8):=by rw [if_pos rfl] at H;exact H
        clear H
        have H:=H1
        clear H1
        replace H:=Option.bind_eq_some_iff.mp H
        obtain⟨⟨t290,t291,t292⟩,A430,H⟩:=H
        replace H:(if yl.length < 17592186044416 then (spec_l14DrawTwo.l0 k1 (wrap64 (4*(wrap64 (1+yj)))) (wrap64 (4*(wrap64 (1+yr)))) vn vo (wrap64 (zm+1)) s0_0 t291 t292 ye yd qz (wrap64 (4*(wrap64 (1+yj)))) (wrap64 (4*(wrap64 (1+yr)))) (yl ++ [t290])) else (none))=some (r1,r2,r3,r4,r5,r6,r7,r8):=H
        have A43:=Ha A430
        clear A430
        by_cases c44:yl.length < 17592186044416
        ·rw [if_pos c44] at H
         have LMc44:=Ha c44
         clear c44
         obtain⟨y293,hy293⟩:∃ y_:List Int,y_=(yl ++ [t290]):=⟨_,rfl⟩
         replace H:(spec_l14DrawTwo.l0 k1 (wrap64 (4*(wrap64 (1+yj)))) (wrap64 (4*(wrap64 (1+yr)))) vn vo (wrap64 (zm+1)) s0_0 t291 t292 ye yd qz (wrap64 (4*(wrap64 (1+yj)))) (wrap64 (4*(wrap64 (1+yr)))) y293)=some (r1,r2,r3,r4,r5,r6,r7,r8):=by first|(rw [hy293];with_reducible exact H)|(have vw:=(Option.bind_some _ _).symm.trans H;rw [hy293];with_reducible exact vw)|(have vw:=(Option.bind_some _ _).symm.trans H;with_reducible exact vw)|with_reducible exact H|(rw [hy293];exact H)|exact H
         have Ny293:=Ha hy293
         clear hy293
         have H':=Ha H
         clear H
         try go_wp2
         have yt:=Ha (Hn qb.out)
         have yv:=Ha (Hn qa.out)
         have ys:=Ha (Hi qe.out)
         have yw:=Ha (Hi qg.out)
         have yu:=Ha (Hi qh.out)
         have yx:=Ha (Hi qc.out)
         have yy:=Ha (Hc qu.out)
         have yz:=Ha (Hp HK.out)
         have zd:=Ha (Hy HB.out)
         clear qb
         clear qa
         clear qe
         clear qg
         clear qh
         clear qc
         clear qu
         clear HK
         clear HB
         have qb:=yt
         have qa:=yv
         have qe:=ys
         have qg:=yw
         have qh:=yu
         have qc:=yx
         have qu:=yy
         have HK:=yz
         have HB:=zd
         clear yt yv ys yw yu yx yy yz zd
         refine start_ (n:=13) (S:=fun w'=>w'.cell? ⟨ya,0,none⟩=some (.int .i64 ye)∧w'.cell? ⟨ya,1,none⟩=some (.int .i64 yd)∧w'.cell? ⟨ya,2,none⟩=some (.slice yh qz.length yg)) (ds:=[]) #[false,false,false,false,false,false,false,false,false,false,false,false,false] (by kernel_rfl) rfl rfl ⟨(Hq qh.out 0).trans rfl,(Hq qh.out 1).trans rfl,(Hq qh.out 2).trans rfl⟩ (fun qx=>?_);refine with_tabW spec_l14DrawTwo.tab12 spec_l14DrawTwo.bits12 (fun HT_ HW_=>?_)
         generalize wr.drew=w45 at qb qa qe qg qh qc qu HK HB qx ⊢
         refine pure_ (i:=1) (N:=some 45) (v:=?_) (a':=?_) #[false,true,false,false,false,false,false,false,false,false,false,false,false] rfl rfl (any_of HT_.out (by kernel_rfl)) (fun _ _ _ h=>h) (Or.inl ⟨by rfl,?_⟩) ?_ ?_
         rotate_left
         ·intro w'
          go_simp
          with_reducible rfl
         rotate_left
         ·simp only [Act.put,List.setIfInBounds_toArray,List.set_cons_zero,List.set_cons_succ,i64_w,i32_w]
          rfl
         refine pure_ (i:=2) (N:=some 46) (v:=?_) (a':=?_) #[false,true,true,false,false,false,false,false,false,false,false,false,false] rfl rfl (any_of HT_.out (by kernel_rfl)) (fun _ _ _ h=>h) (Or.inl ⟨by rfl,?_⟩) ?_ ?_
         rotate_left
         ·intro w'
          go_simp
          with_reducible rfl
         rotate_left
         ·simp only [Act.put,List.setIfInBounds_toArray,List.set_cons_zero,List.set_cons_succ,i64_w,i32_w]
          rfl
         refine pure_ (i:=3) (N:=some 47) (v:=?_) (a':=?_) #[false,true,true,true,false,false,false,false,false,false,false,false,false] rfl rfl (any_of HT_.out (by kernel_rfl)) (fun _ _ _ h=>h) (Or.inl ⟨by rfl,?_⟩) ?_ ?_
         rotate_left
         ·intro w'
          go_simp
          with_reducible rfl
         rotate_left
         ·simp only [Act.put,List.setIfInBounds_toArray,List.set_cons_zero,List.set_cons_succ,i64_w,i32_w]
          rfl
         refine pure_ (i:=4) (N:=some 48) (v:=?_) (a':=?_) #[false,true,true,true,true,false,false,false,false,false,false,false,false] rfl rfl (any_of HT_.out (by kernel_rfl)) (fun _ _ _ h=>h) (Or.inl ⟨by rfl,?_⟩) ?_ ?_
         rotate_left
         ·intro w'
          go_simp
          with_reducible rfl
         rotate_left
         ·simp only [Act.put,List.setIfInBounds_toArray,List.set_cons_zero,List.set_cons_succ,i64_w,i32_w]
          rfl
         refine pure_ (i:=5) (N:=some 49) (v:=?_) (a':=?_) #[false,true,true,true,true,true,false,false,false,false,false,false,false] rfl rfl (any_of HT_.out (by kernel_rfl)) (fun _ _ _ h=>h) (Or.inl ⟨by rfl,?_⟩) ?_ ?_
         rotate_left
         ·intro w'
          go_simp
          with_reducible rfl
         rotate_left
         ·simp only [Act.put,List.setIfInBounds_toArray,List.set_cons_zero,List.set_cons_succ,i64_w,i32_w]
          rfl
         refine pure_ (i:=6) (N:=some 50) (v:=?_) (a':=?_) #[false,true,true,true,true,true,true,false,false,false,false,false,false] rfl rfl (any_of HT_.out (by kernel_rfl)) (fun _ _ _ h=>h) (Or.inl ⟨by rfl,?_⟩) ?_ ?_
         rotate_left
         ·intro w'
          go_simp
          with_reducible rfl
         rotate_left
         ·simp only [Act.put,List.setIfInBounds_toArray,List.set_cons_zero,List.set_cons_succ,i64_w,i32_w]
          rfl
         refine pure_ (i:=7) (N:=some 51) (v:=?_) (a':=?_) #[false,true,true,true,true,true,true,true,false,false,false,false,false] rfl rfl (any_of HT_.out (by kernel_rfl)) (fun _ _ _ h=>h) (Or.inl ⟨by rfl,?_⟩) ?_ ?_
         rotate_left
         ·intro w'
          go_simp
          with_reducible rfl
         rotate_left
         ·simp only [Act.put,List.setIfInBounds_toArray,List.set_cons_zero,List.set_cons_succ,i64_w,i32_w]
          rfl
         refine pure_ (i:=8) (N:=some 52) (v:=?_) (a':=?_) #[false,true,true,true,true,true,true,true,true,false,false,false,false] rfl rfl (any_of HT_.out (by kernel_rfl)) (fun _ _ _ h=>h) (Or.inl ⟨by rfl,?_⟩) ?_ ?_
         rotate_left
         ·intro w'
          go_simp
          with_reducible rfl
         rotate_left
         ·simp only [Act.put,List.setIfInBounds_toArray,List.set_cons_zero,List.set_cons_succ,i64_w,i32_w]
          rfl
         refine pure_ (i:=9) (N:=some 53) (v:=?_) (a':=?_) #[false,true,true,true,true,true,true,true,true,true,false,false,false] rfl rfl (any_of HT_.out (by kernel_rfl)) (fun _ _ _ h=>h) (Or.inl ⟨by rfl,?_⟩) ?_ ?_
         rotate_left
         ·intro w'
          go_simp
          with_reducible rfl
         rotate_left
         ·simp only [Act.put,List.setIfInBounds_toArray,List.set_cons_zero,List.set_cons_succ,i64_w,i32_w]
          rfl
         refine pure_ (i:=10) (N:=some 54) (v:=?_) (a':=?_) #[false,true,true,true,true,true,true,true,true,true,true,false,false] rfl rfl (any_of HT_.out (by kernel_rfl)) (fun _ _ _ h=>h) (Or.inl ⟨by rfl,?_⟩) ?_ ?_
         rotate_left
         ·intro w'
          go_simp
          with_reducible rfl
         rotate_left
         ·simp only [Act.put,List.setIfInBounds_toArray,List.set_cons_zero,List.set_cons_succ,i64_w,i32_w]
          rfl
         refine take_ (i:=0) (N:=some 44) (v:=?_) (a':=?_) #[true,true,true,true,true,true,true,true,true,true,true,false,false] rfl rfl (take_ofW HT_.out HW_.out (by kernel_rfl)) (fun _ _ _ h=>h) (Or.inl ⟨by rfl,?_⟩) qx ?_ ?_
         rotate_left
         ·rintro w' ⟨s0,s1,s2⟩
          go_simp
          with_reducible rfl
         rotate_left
         ·simp only [Act.put,List.setIfInBounds_toArray,List.set_cons_zero,List.set_cons_succ,i64_w,i32_w]
          rfl
         refine one_ (i:=11) (N:=some 55) #[true,true,true,true,true,true,true,true,true,true,true,true,false] rfl rfl (one_of HT_.out (by kernel_rfl)) (by decide) (fun K hK=>?_)
         refine goes_ Try.func93 (by kernel_rfl) rfl #[.agg #[.int .i64 ye,.int .i64 yd,.slice yh qz.length yg],.int .i64 (wrap64 ((Int.tmod zm (wrap64 (4*(wrap64 (1+yj)))))+vn)),.int .i64 (wrap64 ((wrap64 (Int.tdiv zm (wrap64 (4*(wrap64 (1+yj))))))+vo))] (by rfl) rfl rfl (by(try simp only [List.map_toArray,List.map_cons,List.map_nil]);first|done|rfl|(simp only [List.length_drop,List.length_take];rfl)) ?_
         with_reducible refine(spec_l14At.calls ye yd _ _ qz (wrap64 ((Int.tmod zm (wrap64 (4*(wrap64 (1+yj)))))+vn)) (wrap64 ((wrap64 (Int.tdiv zm (wrap64 (4*(wrap64 (1+yj))))))+vo)) vy _ ?side1 ?side2 A40.out).mono ?_
         (case side1=>repeat(first|exact(Kd.Q_reads' qb.out).2.2|(with_reducible refine Kd.C_alloc ?_ _)|(with_reducible refine Kd.C_drewN ?_ _)|(with_reducible refine Kd.C_drew ?_)))
         (case side2=>exact(Kd.Q_reads' qb.out).2.1)
         rintro e w46 ⟨rfl,hb⟩
         refine⟨_,rfl,?_⟩
         have yt:=Ha (Kd.Q_below (by(with_reducible repeat(first|apply Ht|apply Hs|apply Hn));exact qb.out) hb)
         have yv:=Ha (Kd.Q_below (by(with_reducible repeat(first|apply Ht|apply Hs|apply Hn));exact qa.out) hb)
         have ys:=Ha (HO (g:=qd) (o:=.cells #[.int .i64 0,.int .i64 0,.slice none 0 0] 27 (0,0)) (by(with_reducible repeat(first|refine Hk ?_ _|refine Hi ?_|refine Hj ?_ _));exact qe.out) hb)
         have yw:=Ha (HO (g:=qf) (o:=.cells #[.int .i64 0,.int .i64 0,.slice none 0 0] 27 (0,0)) (by(with_reducible repeat(first|refine Hk ?_ _|refine Hi ?_|refine Hj ?_ _));exact qg.out) hb)
         have yu:=Ha (HO (g:=ya) (o:=.cells #[.int .i64 ye,.int .i64 yd,.slice yh qz.length yg] 27 (0,0)) (by(with_reducible repeat(first|refine Hk ?_ _|refine Hi ?_|refine Hj ?_ _));exact qh.out) hb)
         have yx:=Ha (HO (g:=qp) (o:=.cells #[.int .i64 (wrap64 (4*(wrap64 (1+yj)))),.int .i64 (wrap64 (4*(wrap64 (1+yr)))),qy] 27 (0,0)) (by(with_reducible repeat(first|refine Hk ?_ _|refine Hi ?_|refine Hj ?_ _));exact qc.out) hb)
         have yy:=Ha (IsS84.below (by repeat(first|(with_reducible first|exact qu.out|apply Hb|apply Hd|apply Hc|apply Hg|apply Hh|refine He ?_ qo.out _|refine He ?_ qq.out _|refine He ?_ qr.out _|refine He ?_ qt.out _)|exact qu.out)) hb)
         have yz:=Ha (HG (by repeat(first|(with_reducible first|exact HK.out|apply Hu|apply Hx|apply Hp|apply Hw|refine Hm ?_ yf.out _|refine Hm ?_ yi.out _|refine Hm ?_ yn.out _|refine Hm ?_ yp.out _)|exact HK.out)) (KeepBut.of_below hb g none) (.inl rfl))
         have zd:=Ha (below_step (by repeat(first|(with_reducible first|exact HB.out|apply HF|apply Hv|apply Hy|refine Hl ?_ (Hf qu.out)|refine Hl ?_ yo.out|refine Hl ?_ yq.out|refine Hl ?_ za.out|refine Hl ?_ ze.out)|exact HB.out)) hb)
         clear qb
         clear qa
         clear qe
         clear qg
         clear qh
         clear qc
         clear qu
         clear HK
         clear HB
         have qb:=yt
         have qa:=yv
         have qe:=ys
         have qg:=yw
         have qh:=yu
         have qc:=yx
         have qu:=yy
         have HK:=yz
         have HB:=zd
         clear yt yv ys yw yu yx yy yz zd
         (try clear hb)
         (try clear hb2)
         (try clear hk)
         (try clear hi)
         refine hK.out _ _ ⟨(Hq qh.out 0).trans rfl,(Hq qh.out 1).trans rfl,(Hq qh.out 2).trans rfl⟩ (fun qx=>?_)
         clear hK K
         refine norm_ (a':=?_) ?_ ?_
         rotate_left
         ·show Act.put _ (some 55) _=_
          simp only [Act.put,List.setIfInBounds_toArray,List.set_cons_zero,List.set_cons_succ,i64_w,i32_w]
          rfl
         refine pure_ (i:=12) (N:=some 11) (v:=?_) (a':=?_) #[true,true,true,true,true,true,true,true,true,true,true,true,true] rfl rfl (any_of HT_.out (by kernel_rfl)) (fun _ _ _ h=>h) (Or.inl ⟨by rfl,?_⟩) ?_ ?_
         rotate_left
         ·intro w'
          go_simp
          with_reducible rfl
         rotate_left
         ·simp only [Act.put,List.setIfInBounds_toArray,List.set_cons_zero,List.set_cons_succ,i64_w,i32_w]
          rfl
         refine done_ (done_of HT_.out (by kernel_rfl)) ?_
         try go_wp2_with (first|((with_reducible refine HN (f:=64) rfl ?_);refine goesL_ (some 57) rfl rfl Try.func64 (by kernel_rfl) rfl #[.pointer (some ⟨g,0,none⟩),.int .i64 9] rfl (by(try simp only [List.map_toArray,List.map_cons,List.map_nil]);first|done|rfl|(simp only [List.length_drop,List.length_take];rfl)) ?_;(with_reducible refine(spec_l1Once.calls g s0_0 zt zw 9 true vv vu w0 _ ?side1 ?side2 A41.out).mono ?_);(case side1=>repeat(first|(with_reducible first|exact qu.out|apply Hb|apply Hd|apply Hc|apply Hg|apply Hh|refine He ?_ qo.out _|refine He ?_ qq.out _|refine He ?_ qr.out _|refine He ?_ qt.out _)|exact qu.out));(case side2=>repeat(first|(with_reducible first|exact HB.out|apply HF|apply Hv|apply Hy|refine Hl ?_ (Hf qu.out)|refine Hl ?_ yo.out|refine Hl ?_ yq.out|refine Hl ?_ za.out|refine Hl ?_ ze.out)|exact HB.out));rintro e w47 ⟨rfl,hi,hb,hk⟩;refine⟨_,rfl,?_⟩;have yt:=Ha (HD (HM (IsS84.apartQ (show IsS84 w0 _ g s0_0 zt zw from by repeat(first|(with_reducible first|exact qu.out|apply Hb|apply Hd|apply Hc|apply Hg|apply Hh|refine He ?_ qo.out _|refine He ?_ qq.out _|refine He ?_ qr.out _|refine He ?_ qt.out _)|exact qu.out)) (by(with_reducible repeat(first|apply Ht|apply Hs|apply Hn));exact qb.out) (by decide)) hk (fun _ h=>h.2)) (fun _ h=>h.1));have yv:=Ha (HD (HM (IsS84.apartQ (show IsS84 w0 _ g s0_0 zt zw from by repeat(first|(with_reducible first|exact qu.out|apply Hb|apply Hd|apply Hc|apply Hg|apply Hh|refine He ?_ qo.out _|refine He ?_ qq.out _|refine He ?_ qr.out _|refine He ?_ qt.out _)|exact qu.out)) (by(with_reducible repeat(first|apply Ht|apply Hs|apply Hn));exact qa.out) (by decide)) hk (fun _ h=>h.2)) (fun _ h=>h.1));have ys:=Ha (Hr hk (g':=qd) (o:=.cells #[.int .i64 0,.int .i64 0,.slice none 0 0] 27 (0,0)) (by(with_reducible repeat(first|refine Hk ?_ _|refine Hi ?_|refine Hj ?_ _));exact qe.out) zf.out (by simp));have yw:=Ha (Hr hk (g':=qf) (o:=.cells #[.int .i64 0,.int .i64 0,.slice none 0 0] 27 (0,0)) (by(with_reducible repeat(first|refine Hk ?_ _|refine Hi ?_|refine Hj ?_ _));exact qg.out) zg.out (by simp));have yu:=Ha (Hr hk (g':=ya) (o:=.cells #[.int .i64 ye,.int .i64 yd,.slice yh qz.length yg] 27 (0,0)) (by(with_reducible repeat(first|refine Hk ?_ _|refine Hi ?_|refine Hj ?_ _));exact qh.out) zh.out (by simp));have yx:=Ha (Hr hk (g':=qp) (o:=.cells #[.int .i64 (wrap64 (4*(wrap64 (1+yj)))),.int .i64 (wrap64 (4*(wrap64 (1+yr)))),qy] 27 (0,0)) (by(with_reducible repeat(first|refine Hk ?_ _|refine Hi ?_|refine Hj ?_ _));exact qc.out) zc.out (by simp));have yy:=Ha (HG (by repeat(first|(with_reducible first|exact HK.out|apply Hu|apply Hx|apply Hp|apply Hw|refine Hm ?_ yf.out _|refine Hm ?_ yi.out _|refine Hm ?_ yn.out _|refine Hm ?_ yp.out _)|exact HK.out)) hk (.inl rfl));have yz:=Ha (hb);have zd:=Ha (hi);clear qb;clear qa;clear qe;clear qg;clear qh;clear qc;clear HK;clear HB;clear qu;have qb:=yt;have qa:=yv;have qe:=ys;have qg:=yw;have qh:=yu;have qc:=yx;have HK:=yy;have HB:=yz;have qu:=zd;clear yt yv ys yw yu yx yy yz zd;(try clear hb);(try clear hb2);(try clear hk);(try clear hi))|((with_reducible refine HN (f:=65) rfl ?_);refine goesL_ (some 59) rfl rfl Try.func65 (by kernel_rfl) rfl #[.pointer (some ⟨g,0,none⟩),.int .i64 256] rfl (by(try simp only [List.map_toArray,List.map_cons,List.map_nil]);first|done|rfl|(simp only [List.length_drop,List.length_take];rfl)) ?_;(with_reducible refine(spec_l1Below.calls g s0_0 vv vu 256 t290 t291 t292 w0 _ ?side1 ?side2 A43.out).mono ?_);(case side1=>repeat(first|(with_reducible first|exact qu.out|apply Hb|apply Hd|apply Hc|apply Hg|apply Hh|refine He ?_ qo.out _|refine He ?_ qq.out _|refine He ?_ qr.out _|refine He ?_ qt.out _)|exact qu.out));(case side2=>repeat(first|(with_reducible first|exact HB.out|apply HF|apply Hv|apply Hy|refine Hl ?_ (Hf qu.out)|refine Hl ?_ yo.out|refine Hl ?_ yq.out|refine Hl ?_ za.out|refine Hl ?_ ze.out)|exact HB.out));rintro e w48 ⟨rfl,hi,hb,hk⟩;refine⟨_,rfl,?_⟩;have yt:=Ha (HD (HM (IsS84.apartQ (show IsS84 w0 _ g s0_0 vv vu from by repeat(first|(with_reducible first|exact qu.out|apply Hb|apply Hd|apply Hc|apply Hg|apply Hh|refine He ?_ qo.out _|refine He ?_ qq.out _|refine He ?_ qr.out _|refine He ?_ qt.out _)|exact qu.out)) (by(with_reducible repeat(first|apply Ht|apply Hs|apply Hn));exact qb.out) (by decide)) hk (fun _ h=>h.2)) (fun _ h=>h.1));have yv:=Ha (HD (HM (IsS84.apartQ (show IsS84 w0 _ g s0_0 vv vu from by repeat(first|(with_reducible first|exact qu.out|apply Hb|apply Hd|apply Hc|apply Hg|apply Hh|refine He ?_ qo.out _|refine He ?_ qq.out _|refine He ?_ qr.out _|refine He ?_ qt.out _)|exact qu.out)) (by(with_reducible repeat(first|apply Ht|apply Hs|apply Hn));exact qa.out) (by decide)) hk (fun _ h=>h.2)) (fun _ h=>h.1));have ys:=Ha (Hr hk (g':=qd) (o:=.cells #[.int .i64 0,.int .i64 0,.slice none 0 0] 27 (0,0)) (by(with_reducible repeat(first|refine Hk ?_ _|refine Hi ?_|refine Hj ?_ _));exact qe.out) zf.out (by simp));have yw:=Ha (Hr hk (g':=qf) (o:=.cells #[.int .i64 0,.int .i64 0,.slice none 0 0] 27 (0,0)) (by(with_reducible repeat(first|refine Hk ?_ _|refine Hi ?_|refine Hj ?_ _));exact qg.out) zg.out (by simp));have yu:=Ha (Hr hk (g':=ya) (o:=.cells #[.int .i64 ye,.int .i64 yd,.slice yh qz.length yg] 27 (0,0)) (by(with_reducible repeat(first|refine Hk ?_ _|refine Hi ?_|refine Hj ?_ _));exact qh.out) zh.out (by simp));have yx:=Ha (Hr hk (g':=qp) (o:=.cells #[.int .i64 (wrap64 (4*(wrap64 (1+yj)))),.int .i64 (wrap64 (4*(wrap64 (1+yr)))),qy] 27 (0,0)) (by(with_reducible repeat(first|refine Hk ?_ _|refine Hi ?_|refine Hj ?_ _));exact qc.out) zc.out (by simp));have yy:=Ha (HG (by repeat(first|(with_reducible first|exact HK.out|apply Hu|apply Hx|apply Hp|apply Hw|refine Hm ?_ yf.out _|refine Hm ?_ yi.out _|refine Hm ?_ yn.out _|refine Hm ?_ yp.out _)|exact HK.out)) hk (.inl rfl));have yz:=Ha (hb);have zd:=Ha (hi);clear qb;clear qa;clear qe;clear qg;clear qh;clear qc;clear HK;clear HB;clear qu;have qb:=yt;have qa:=yv;have qe:=ys;have qg:=yw;have qh:=yu;have qc:=yx;have HK:=yy;have HB:=yz;have qu:=zd;clear yt yv ys yw yu yx yy yz zd;(try clear hb);(try clear hb2);(try clear hk);(try clear hi);have hnb49:=qk.out;have hnc49:=yc.out;have hnb50:=ql.out;have hnc50:=yb.out;have hnb51:=zr.out;have hnc51:=zb.out;have hnb52:=zc.out;have hnc52:=qt.out;have hcz53_0:w48.cell? ⟨qp,0,none⟩=some (.int .i64 (wrap64 (4*(wrap64 (1+yj))))):=(Hq qc.out 0).trans rfl;have hcz53_1:w48.cell? ⟨qp,1,none⟩=some (.int .i64 (wrap64 (4*(wrap64 (1+yr))))):=(Hq qc.out 1).trans rfl;have hcz53_2:w48.cell? ⟨qp,2,none⟩=some (qy):=(Hq qc.out 2).trans rfl;have hfz53_0:=Hz qc.out 0;have hfz53_1:=Hz qc.out 1;have hfz53_2:=Hz qc.out 2)|((with_reducible refine gate_builtin (b:=.append) (xs:=#[.tmp 61,.tmp 63]) rfl ?_);at_builtin;refine Kd.Q_append (Kd.int .i64) w.heap.size rfl (.tmp 61) (.tmp 63) 22 2 (.int .i64 0) 8 rfl Try.underlying22 info2 rfl (by decide) (by omega) qy yl t290 [.int .i64 t290] (fun k_=>some k_≠(.slice yh qz.length yg:Value).ownBlock) (fun _=>False) rfl rfl ?aP (fun _ hk=>hk.elim) ?aF ?aO (Below.refl _ _) ?aS ?aL ?_;(case aP=>exact rfl);(case aF=>exact(fun k_ hk=>Kd.fresh' (Kd.Q_lt (by(with_reducible repeat(first|apply Ht|apply Hs|apply Hn));exact qb.out)) k_ hk));(case aO=>exact(by(with_reducible repeat(first|apply Ht|apply Hs|apply Hn));exact qa.out));(case aS=>exact(keep_size (w:=w) (g:=g) (row:=none) (by repeat(first|(with_reducible first|exact HK.out|apply Hu|apply Hx|apply Hp|apply Hw|refine Hm ?_ yf.out _|refine Hm ?_ yi.out _|refine Hm ?_ yn.out _|refine Hm ?_ yp.out _)|exact HK.out))));(case aL=>have:=LMc44.out;omega);intro v294 w54 ho hb hg hat;rw [← Ny293.out] at ho;have yt:=Ha (Kd.Q_after (ok:=(fun _=>True)) (by(with_reducible repeat(first|apply Ht|apply Hs|apply Hn));exact HD qb.out (fun _ hk=>⟨trivial,hk⟩)) hg hat);have yv:=Ha (blk_grown (g:=qd) (o:=.cells #[.int .i64 0,.int .i64 0,.slice none 0 0] 27 (0,0)) (by(with_reducible repeat(first|refine Hk ?_ _|refine Hi ?_|refine Hj ?_ _));exact qe.out) hg (Kd.Q_ne qa.out qe.out (by decide)));have ys:=Ha (blk_grown (g:=qf) (o:=.cells #[.int .i64 0,.int .i64 0,.slice none 0 0] 27 (0,0)) (by(with_reducible repeat(first|refine Hk ?_ _|refine Hi ?_|refine Hj ?_ _));exact qg.out) hg (Kd.Q_ne qa.out qg.out (by decide)));have yw:=Ha (blk_grown (g:=ya) (o:=.cells #[.int .i64 ye,.int .i64 yd,.slice yh qz.length yg] 27 (0,0)) (by(with_reducible repeat(first|refine Hk ?_ _|refine Hi ?_|refine Hj ?_ _));exact qh.out) hg (Kd.Q_ne qa.out qh.out (by decide)));have yu:=Ha (blk_grown (g:=qp) (o:=.cells #[.int .i64 (wrap64 (4*(wrap64 (1+yj)))),.int .i64 (wrap64 (4*(wrap64 (1+yr)))),qy] 27 (0,0)) (by(with_reducible repeat(first|refine Hk ?_ _|refine Hi ?_|refine Hj ?_ _));exact qc.out) hg (Kd.Q_ne qa.out qc.out (by decide)));have yx:=Ha (IsS84.grown (by repeat(first|(with_reducible first|exact qu.out|apply Hb|apply Hd|apply Hc|apply Hg|apply Hh|refine He ?_ qo.out _|refine He ?_ qq.out _|refine He ?_ qr.out _|refine He ?_ qt.out _)|exact qu.out)) hg (IsS84.own_neQ qu.out qa.out (by decide)));have yy:=Ha (below_weaken (by repeat(first|(with_reducible first|exact HB.out|apply HF|apply Hv|apply Hy|refine Hl ?_ (Hf qu.out)|refine Hl ?_ yo.out|refine Hl ?_ yq.out|refine Hl ?_ za.out|refine Hl ?_ ze.out)|exact HB.out)) HL.out hb);have yz:=Ha (HG (by repeat(first|(with_reducible first|exact HK.out|apply Hu|apply Hx|apply Hp|apply Hw|refine Hm ?_ yf.out _|refine Hm ?_ yi.out _|refine Hm ?_ yn.out _|refine Hm ?_ yp.out _)|exact HK.out)) (KeepBut.of_grown hg g) (Kd.Q_base2 qa.out));have zd:=Ha (ho);clear qb;clear qe;clear qg;clear qh;clear qc;clear qu;clear HB;clear HK;clear qa;have qb:=yt;have qe:=yv;have qg:=ys;have qh:=yw;have qc:=yu;have qu:=yx;have HB:=yy;have HK:=yz;have HO295:=zd;clear yt yv ys yw yu yx yy yz zd;clear ho hb hg hat;obtain⟨Ao55,co55,eo55,_⟩:=Kd.Q_slice HO295.out;subst eo55;have hcz56_0:w54.cell? ⟨qp,0,none⟩=some (.int .i64 (wrap64 (4*(wrap64 (1+yj))))):=(Hq qc.out 0).trans rfl;have hcz56_1:w54.cell? ⟨qp,1,none⟩=some (.int .i64 (wrap64 (4*(wrap64 (1+yr))))):=(Hq qc.out 1).trans rfl;have hcz56_2:w54.cell? ⟨qp,2,none⟩=some (qy):=(Hq qc.out 2).trans rfl;have hfz56_0:=Hz qc.out 0;have hfz56_1:=Hz qc.out 1;have hfz56_2:=Hz qc.out 2))
         go_roundg k1
         case measure=>have:=HK1.out;omega
         case rel=>exact⟨(wrap64 (zm+1)),(t291),(t292),(y293),(.slice Ao55 y293.length co55),(by first|rfl|(simp;done)|(simp [*];done)),H',⟨by have:=HK1.out;omega⟩,⟨by(with_reducible repeat(first|apply Ht|apply Hs|apply Hn));exact HD (HC (p:=⟨qp,2,none⟩) (HJ qb.out qc.out (by decide)) (fun _ hk=>hk.2) (.slice Ao55 y293.length co55)) (fun _ hk=>hk.1.2)⟩,⟨by(with_reducible repeat(first|apply Ht|apply Hs|apply Hn));exact HD (HC (p:=⟨qp,2,none⟩) (HJ HO295.out qc.out (by decide)) (fun _ hk=>hk.2) (.slice Ao55 y293.length co55)) (fun _ hk=>hk.1)⟩,⟨by(with_reducible repeat(first|refine Hk ?_ _|refine Hi ?_|refine Hj ?_ _));refine HE ?_ yc.out _;(with_reducible repeat(first|refine Hk ?_ _|refine Hi ?_|refine Hj ?_ _));exact qe.out⟩,⟨by(with_reducible repeat(first|refine Hk ?_ _|refine Hi ?_|refine Hj ?_ _));refine HE ?_ yb.out _;(with_reducible repeat(first|refine Hk ?_ _|refine Hi ?_|refine Hj ?_ _));exact qg.out⟩,⟨by(with_reducible repeat(first|refine Hk ?_ _|refine Hi ?_|refine Hj ?_ _));refine HE ?_ zb.out _;(with_reducible repeat(first|refine Hk ?_ _|refine Hi ?_|refine Hj ?_ _));exact qh.out⟩,⟨by(with_reducible repeat(first|refine Hk ?_ _|refine Hi ?_|refine Hj ?_ _));refine HI (cs:=#[.int .i64 (wrap64 (4*(wrap64 (1+yj)))),.int .i64 (wrap64 (4*(wrap64 (1+yr)))),qy]) ?_ 2 _ rfl;(with_reducible repeat(first|refine Hk ?_ _|refine Hi ?_|refine Hj ?_ _));exact qc.out⟩,⟨by repeat(first|(with_reducible first|exact qu.out|apply Hb|apply Hd|apply Hc|apply Hg|apply Hh|refine He ?_ qo.out _|refine He ?_ qq.out _|refine He ?_ qr.out _|refine He ?_ qt.out _)|exact qu.out)⟩,⟨by repeat(first|(with_reducible first|exact HK.out|apply Hu|apply Hx|apply Hp|apply Hw|refine Hm ?_ yf.out _|refine Hm ?_ yi.out _|refine Hm ?_ yn.out _|refine Hm ?_ yp.out _)|exact HK.out)⟩,⟨by repeat(first|(with_reducible first|exact HB.out|apply HF|apply Hv|apply Hy|refine Hl ?_ (Hf qu.out)|refine Hl ?_ yo.out|refine Hl ?_ yq.out|refine Hl ?_ za.out|refine Hl ?_ ze.out)|exact HB.out)⟩⟩
        ·rw [if_neg c44] at H
         exact absurd H (by simp)
       ·replace c42:=Bool.eq_false_iff.mpr c42
        subst c42
        have H1:(if yl.length < 17592186044416 then (spec_l14DrawTwo.l0 k1 (wrap64 (4*(wrap64 (1+yj)))) (wrap64 (4*(wrap64 (1+yr)))) vn vo (wrap64 (zm+1)) s0_0 vv vu ye yd qz (wrap64 (4*(wrap64 (1+yj)))) (wrap64 (4*(wrap64 (1+yr)))) (yl ++ [vy])) else (none))=some (r1,r2,r3,r4,r5,r6,r7,r8):=by rw [if_neg (show ¬ (false=true) by decide)] at H;exact H
        clear H
        have H:=H1
        clear H1
        by_cases c57:yl.length < 17592186044416
        ·rw [if_pos c57] at H
         have LMc57:=Ha c57
         clear c57
         obtain⟨y296,hy296⟩:∃ y_:List Int,y_=(yl ++ [vy]):=⟨_,rfl⟩
         replace H:(spec_l14DrawTwo.l0 k1 (wrap64 (4*(wrap64 (1+yj)))) (wrap64 (4*(wrap64 (1+yr)))) vn vo (wrap64 (zm+1)) s0_0 vv vu ye yd qz (wrap64 (4*(wrap64 (1+yj)))) (wrap64 (4*(wrap64 (1+yr)))) y296)=some (r1,r2,r3,r4,r5,r6,r7,r8):=by first|(rw [hy296];with_reducible exact H)|(have vw:=(Option.bind_some _ _).symm.trans H;rw [hy296];with_reducible exact vw)|(have vw:=(Option.bind_some _ _).symm.trans H;with_reducible exact vw)|with_reducible exact H|(rw [hy296];exact H)|exact H
         have Ny296:=Ha hy296
         clear hy296
         have H':=Ha H
         clear H
         try go_wp2
         have yt:=Ha (Hn qb.out)
         have yv:=Ha (Hn qa.out)
         have ys:=Ha (Hi qe.out)
         have yw:=Ha (Hi qg.out)
         have yu:=Ha (Hi qh.out)
         have yx:=Ha (Hi qc.out)
         have yy:=Ha (Hc qu.out)
         have yz:=Ha (Hp HK.out)
         have zd:=Ha (Hy HB.out)
         clear qb
         clear qa
         clear qe
         clear qg
         clear qh
         clear qc
         clear qu
         clear HK
         clear HB
         have qb:=yt
         have qa:=yv
         have qe:=ys
         have qg:=yw
         have qh:=yu
         have qc:=yx
         have qu:=yy
         have HK:=yz
         have HB:=zd
         clear yt yv ys yw yu yx yy yz zd
         refine start_ (n:=13) (S:=fun w'=>w'.cell? ⟨ya,0,none⟩=some (.int .i64 ye)∧w'.cell? ⟨ya,1,none⟩=some (.int .i64 yd)∧w'.cell? ⟨ya,2,none⟩=some (.slice yh qz.length yg)) (ds:=[]) #[false,false,false,false,false,false,false,false,false,false,false,false,false] (by kernel_rfl) rfl rfl ⟨(Hq qh.out 0).trans rfl,(Hq qh.out 1).trans rfl,(Hq qh.out 2).trans rfl⟩ (fun qx=>?_);refine with_tabW spec_l14DrawTwo.tab12 spec_l14DrawTwo.bits12 (fun HT_ HW_=>?_)
         generalize wr.drew=w58 at qb qa qe qg qh qc qu HK HB qx ⊢
         refine pure_ (i:=1) (N:=some 45) (v:=?_) (a':=?_) #[false,true,false,false,false,false,false,false,false,false,false,false,false] rfl rfl (any_of HT_.out (by kernel_rfl)) (fun _ _ _ h=>h) (Or.inl ⟨by rfl,?_⟩) ?_ ?_
         rotate_left
         ·intro w'
          go_simp
          with_reducible rfl
         rotate_left
         ·simp only [Act.put,List.setIfInBounds_toArray,List.set_cons_zero,List.set_cons_succ,i64_w,i32_w]
          rfl
         refine pure_ (i:=2) (N:=some 46) (v:=?_) (a':=?_) #[false,true,true,false,false,false,false,false,false,false,false,false,false] rfl rfl (any_of HT_.out (by kernel_rfl)) (fun _ _ _ h=>h) (Or.inl ⟨by rfl,?_⟩) ?_ ?_
         rotate_left
         ·intro w'
          go_simp
          with_reducible rfl
         rotate_left
         ·simp only [Act.put,List.setIfInBounds_toArray,List.set_cons_zero,List.set_cons_succ,i64_w,i32_w]
          rfl
         refine pure_ (i:=3) (N:=some 47) (v:=?_) (a':=?_) #[false,true,true,true,false,false,false,false,false,false,false,false,false] rfl rfl (any_of HT_.out (by kernel_rfl)) (fun _ _ _ h=>h) (Or.inl ⟨by rfl,?_⟩) ?_ ?_
         rotate_left
         ·intro w'
          go_simp
          with_reducible rfl
         rotate_left
         ·simp only [Act.put,List.setIfInBounds_toArray,List.set_cons_zero,List.set_cons_succ,i64_w,i32_w]
          rfl
         refine pure_ (i:=4) (N:=some 48) (v:=?_) (a':=?_) #[false,true,true,true,true,false,false,false,false,false,false,false,false] rfl rfl (any_of HT_.out (by kernel_rfl)) (fun _ _ _ h=>h) (Or.inl ⟨by rfl,?_⟩) ?_ ?_
         rotate_left
         ·intro w'
          go_simp
          with_reducible rfl
         rotate_left
         ·simp only [Act.put,List.setIfInBounds_toArray,List.set_cons_zero,List.set_cons_succ,i64_w,i32_w]
          rfl
         refine pure_ (i:=5) (N:=some 49) (v:=?_) (a':=?_) #[false,true,true,true,true,true,false,false,false,false,false,false,false] rfl rfl (any_of HT_.out (by kernel_rfl)) (fun _ _ _ h=>h) (Or.inl ⟨by rfl,?_⟩) ?_ ?_
         rotate_left
         ·intro w'
          go_simp
          with_reducible rfl
         rotate_left
         ·simp only [Act.put,List.setIfInBounds_toArray,List.set_cons_zero,List.set_cons_succ,i64_w,i32_w]
          rfl
         refine pure_ (i:=6) (N:=some 50) (v:=?_) (a':=?_) #[false,true,true,true,true,true,true,false,false,false,false,false,false] rfl rfl (any_of HT_.out (by kernel_rfl)) (fun _ _ _ h=>h) (Or.inl ⟨by rfl,?_⟩) ?_ ?_
         rotate_left
         ·intro w'
          go_simp
          with_reducible rfl
         rotate_left
         ·simp only [Act.put,List.setIfInBounds_toArray,List.set_cons_zero,List.set_cons_succ,i64_w,i32_w]
          rfl
         refine pure_ (i:=7) (N:=some 51) (v:=?_) (a':=?_) #[false,true,true,true,true,true,true,true,false,false,false,false,false] rfl rfl (any_of HT_.out (by kernel_rfl)) (fun _ _ _ h=>h) (Or.inl ⟨by rfl,?_⟩) ?_ ?_
         rotate_left
         ·intro w'
          go_simp
          with_reducible rfl
         rotate_left
         ·simp only [Act.put,List.setIfInBounds_toArray,List.set_cons_zero,List.set_cons_succ,i64_w,i32_w]
          rfl
         refine pure_ (i:=8) (N:=some 52) (v:=?_) (a':=?_) #[false,true,true,true,true,true,true,true,true,false,false,false,false] rfl rfl (any_of HT_.out (by kernel_rfl)) (fun _ _ _ h=>h) (Or.inl ⟨by rfl,?_⟩) ?_ ?_
         rotate_left
         ·intro w'
          go_simp
          with_reducible rfl
         rotate_left
         ·simp only [Act.put,List.setIfInBounds_toArray,List.set_cons_zero,List.set_cons_succ,i64_w,i32_w]
          rfl
         refine pure_ (i:=9) (N:=some 53) (v:=?_) (a':=?_) #[false,true,true,true,true,true,true,true,true,true,false,false,false] rfl rfl (any_of HT_.out (by kernel_rfl)) (fun _ _ _ h=>h) (Or.inl ⟨by rfl,?_⟩) ?_ ?_
         rotate_left
         ·intro w'
          go_simp
          with_reducible rfl
         rotate_left
         ·simp only [Act.put,List.setIfInBounds_toArray,List.set_cons_zero,List.set_cons_succ,i64_w,i32_w]
          rfl
         refine pure_ (i:=10) (N:=some 54) (v:=?_) (a':=?_) #[false,true,true,true,true,true,true,true,true,true,true,false,false] rfl rfl (any_of HT_.out (by kernel_rfl)) (fun _ _ _ h=>h) (Or.inl ⟨by rfl,?_⟩) ?_ ?_
         rotate_left
         ·intro w'
          go_simp
          with_reducible rfl
         rotate_left
         ·simp only [Act.put,List.setIfInBounds_toArray,List.set_cons_zero,List.set_cons_succ,i64_w,i32_w]
          rfl
         refine take_ (i:=0) (N:=some 44) (v:=?_) (a':=?_) #[true,true,true,true,true,true,true,true,true,true,true,false,false] rfl rfl (take_ofW HT_.out HW_.out (by kernel_rfl)) (fun _ _ _ h=>h) (Or.inl ⟨by rfl,?_⟩) qx ?_ ?_
         rotate_left
         ·rintro w' ⟨s0,s1,s2⟩
          go_simp
          with_reducible rfl
         rotate_left
         ·simp only [Act.put,List.setIfInBounds_toArray,List.set_cons_zero,List.set_cons_succ,i64_w,i32_w]
          rfl
         refine one_ (i:=11) (N:=some 55) #[true,true,true,true,true,true,true,true,true,true,true,true,false] rfl rfl (one_of HT_.out (by kernel_rfl)) (by decide) (fun K hK=>?_)
         refine goes_ Try.func93 (by kernel_rfl) rfl #[.agg #[.int .i64 ye,.int .i64 yd,.slice yh qz.length yg],.int .i64 (wrap64 ((Int.tmod zm (wrap64 (4*(wrap64 (1+yj)))))+vn)),.int .i64 (wrap64 ((wrap64 (Int.tdiv zm (wrap64 (4*(wrap64 (1+yj))))))+vo))] (by rfl) rfl rfl (by(try simp only [List.map_toArray,List.map_cons,List.map_nil]);first|done|rfl|(simp only [List.length_drop,List.length_take];rfl)) ?_
         with_reducible refine(spec_l14At.calls ye yd _ _ qz (wrap64 ((Int.tmod zm (wrap64 (4*(wrap64 (1+yj)))))+vn)) (wrap64 ((wrap64 (Int.tdiv zm (wrap64 (4*(wrap64 (1+yj))))))+vo)) vy _ ?side1 ?side2 A40.out).mono ?_
         (case side1=>repeat(first|exact(Kd.Q_reads' qb.out).2.2|(with_reducible refine Kd.C_alloc ?_ _)|(with_reducible refine Kd.C_drewN ?_ _)|(with_reducible refine Kd.C_drew ?_)))
         (case side2=>exact(Kd.Q_reads' qb.out).2.1)
         rintro e w59 ⟨rfl,hb⟩
         refine⟨_,rfl,?_⟩
         have yt:=Ha (Kd.Q_below (by(with_reducible repeat(first|apply Ht|apply Hs|apply Hn));exact qb.out) hb)
         have yv:=Ha (Kd.Q_below (by(with_reducible repeat(first|apply Ht|apply Hs|apply Hn));exact qa.out) hb)
         have ys:=Ha (HO (g:=qd) (o:=.cells #[.int .i64 0,.int .i64 0,.slice none 0 0] 27 (0,0)) (by(with_reducible repeat(first|refine Hk ?_ _|refine Hi ?_|refine Hj ?_ _));exact qe.out) hb)
         have yw:=Ha (HO (g:=qf) (o:=.cells #[.int .i64 0,.int .i64 0,.slice none 0 0] 27 (0,0)) (by(with_reducible repeat(first|refine Hk ?_ _|refine Hi ?_|refine Hj ?_ _));exact qg.out) hb)
         have yu:=Ha (HO (g:=ya) (o:=.cells #[.int .i64 ye,.int .i64 yd,.slice yh qz.length yg] 27 (0,0)) (by(with_reducible repeat(first|refine Hk ?_ _|refine Hi ?_|refine Hj ?_ _));exact qh.out) hb)
         have yx:=Ha (HO (g:=qp) (o:=.cells #[.int .i64 (wrap64 (4*(wrap64 (1+yj)))),.int .i64 (wrap64 (4*(wrap64 (1+yr)))),qy] 27 (0,0)) (by(with_reducible repeat(first|refine Hk ?_ _|refine Hi ?_|refine Hj ?_ _));exact qc.out) hb)
         have yy:=Ha (IsS84.below (by repeat(first|(with_reducible first|exact qu.out|apply Hb|apply Hd|apply Hc|apply Hg|apply Hh|refine He ?_ qo.out _|refine He ?_ qq.out _|refine He ?_ qr.out _|refine He ?_ qt.out _)|exact qu.out)) hb)
         have yz:=Ha (HG (by repeat(first|(with_reducible first|exact HK.out|apply Hu|apply Hx|apply Hp|apply Hw|refine Hm ?_ yf.out _|refine Hm ?_ yi.out _|refine Hm ?_ yn.out _|refine Hm ?_ yp.out _)|exact HK.out)) (KeepBut.of_below hb g none) (.inl rfl))
         have zd:=Ha (below_step (by repeat(first|(with_reducible first|exact HB.out|apply HF|apply Hv|apply Hy|refine Hl ?_ (Hf qu.out)|refine Hl ?_ yo.out|refine Hl ?_ yq.out|refine Hl ?_ za.out|refine Hl ?_ ze.out)|exact HB.out)) hb)
         clear qb
         clear qa
         clear qe
         clear qg
         clear qh
         clear qc
         clear qu
         clear HK
         clear HB
         have qb:=yt
         have qa:=yv
         have qe:=ys
         have qg:=yw
         have qh:=yu
         have qc:=yx
         have qu:=yy
         have HK:=yz
         have HB:=zd
         clear yt yv ys yw yu yx yy yz zd
         (try clear hb)
         (try clear hb2)
         (try clear hk)
         (try clear hi)
         refine hK.out _ _ ⟨(Hq qh.out 0).trans rfl,(Hq qh.out 1).trans rfl,(Hq qh.out 2).trans rfl⟩ (fun qx=>?_)
         clear hK K
         refine norm_ (a':=?_) ?_ ?_
         rotate_left
         ·show Act.put _ (some 55) _=_
          simp only [Act.put,List.setIfInBounds_toArray,List.set_cons_zero,List.set_cons_succ,i64_w,i32_w]
          rfl
         refine pure_ (i:=12) (N:=some 11) (v:=?_) (a':=?_) #[true,true,true,true,true,true,true,true,true,true,true,true,true] rfl rfl (any_of HT_.out (by kernel_rfl)) (fun _ _ _ h=>h) (Or.inl ⟨by rfl,?_⟩) ?_ ?_
         rotate_left
         ·intro w'
          go_simp
          with_reducible rfl
         rotate_left
         ·simp only [Act.put,List.setIfInBounds_toArray,List.set_cons_zero,List.set_cons_succ,i64_w,i32_w]
          rfl
         refine done_ (done_of HT_.out (by kernel_rfl)) ?_
         try go_wp2_with (first|((with_reducible refine HN (f:=64) rfl ?_);refine goesL_ (some 57) rfl rfl Try.func64 (by kernel_rfl) rfl #[.pointer (some ⟨g,0,none⟩),.int .i64 9] rfl (by(try simp only [List.map_toArray,List.map_cons,List.map_nil]);first|done|rfl|(simp only [List.length_drop,List.length_take];rfl)) ?_;(with_reducible refine(spec_l1Once.calls g s0_0 zt zw 9 false vv vu w0 _ ?side1 ?side2 A41.out).mono ?_);(case side1=>repeat(first|(with_reducible first|exact qu.out|apply Hb|apply Hd|apply Hc|apply Hg|apply Hh|refine He ?_ qo.out _|refine He ?_ qq.out _|refine He ?_ qr.out _|refine He ?_ qt.out _)|exact qu.out));(case side2=>repeat(first|(with_reducible first|exact HB.out|apply HF|apply Hv|apply Hy|refine Hl ?_ (Hf qu.out)|refine Hl ?_ yo.out|refine Hl ?_ yq.out|refine Hl ?_ za.out|refine Hl ?_ ze.out)|exact HB.out));rintro e w60 ⟨rfl,hi,hb,hk⟩;refine⟨_,rfl,?_⟩;have yt:=Ha (HD (HM (IsS84.apartQ (show IsS84 w0 _ g s0_0 zt zw from by repeat(first|(with_reducible first|exact qu.out|apply Hb|apply Hd|apply Hc|apply Hg|apply Hh|refine He ?_ qo.out _|refine He ?_ qq.out _|refine He ?_ qr.out _|refine He ?_ qt.out _)|exact qu.out)) (by(with_reducible repeat(first|apply Ht|apply Hs|apply Hn));exact qb.out) (by decide)) hk (fun _ h=>h.2)) (fun _ h=>h.1));have yv:=Ha (HD (HM (IsS84.apartQ (show IsS84 w0 _ g s0_0 zt zw from by repeat(first|(with_reducible first|exact qu.out|apply Hb|apply Hd|apply Hc|apply Hg|apply Hh|refine He ?_ qo.out _|refine He ?_ qq.out _|refine He ?_ qr.out _|refine He ?_ qt.out _)|exact qu.out)) (by(with_reducible repeat(first|apply Ht|apply Hs|apply Hn));exact qa.out) (by decide)) hk (fun _ h=>h.2)) (fun _ h=>h.1));have ys:=Ha (Hr hk (g':=qd) (o:=.cells #[.int .i64 0,.int .i64 0,.slice none 0 0] 27 (0,0)) (by(with_reducible repeat(first|refine Hk ?_ _|refine Hi ?_|refine Hj ?_ _));exact qe.out) zf.out (by simp));have yw:=Ha (Hr hk (g':=qf) (o:=.cells #[.int .i64 0,.int .i64 0,.slice none 0 0] 27 (0,0)) (by(with_reducible repeat(first|refine Hk ?_ _|refine Hi ?_|refine Hj ?_ _));exact qg.out) zg.out (by simp));have yu:=Ha (Hr hk (g':=ya) (o:=.cells #[.int .i64 ye,.int .i64 yd,.slice yh qz.length yg] 27 (0,0)) (by(with_reducible repeat(first|refine Hk ?_ _|refine Hi ?_|refine Hj ?_ _));exact qh.out) zh.out (by simp));have yx:=Ha (Hr hk (g':=qp) (o:=.cells #[.int .i64 (wrap64 (4*(wrap64 (1+yj)))),.int .i64 (wrap64 (4*(wrap64 (1+yr)))),qy] 27 (0,0)) (by(with_reducible repeat(first|refine Hk ?_ _|refine Hi ?_|refine Hj ?_ _));exact qc.out) zc.out (by simp));have yy:=Ha (HG (by repeat(first|(with_reducible first|exact HK.out|apply Hu|apply Hx|apply Hp|apply Hw|refine Hm ?_ yf.out _|refine Hm ?_ yi.out _|refine Hm ?_ yn.out _|refine Hm ?_ yp.out _)|exact HK.out)) hk (.inl rfl));have yz:=Ha (hb);have zd:=Ha (hi);clear qb;clear qa;clear qe;clear qg;clear qh;clear qc;clear HK;clear HB;clear qu;have qb:=yt;have qa:=yv;have qe:=ys;have qg:=yw;have qh:=yu;have qc:=yx;have HK:=yy;have HB:=yz;have qu:=zd;clear yt yv ys yw yu yx yy yz zd;(try clear hb);(try clear hb2);(try clear hk);(try clear hi);have hnb61:=qk.out;have hnc61:=yc.out;have hnb62:=ql.out;have hnc62:=yb.out;have hnb63:=zr.out;have hnc63:=zb.out;have hnb64:=zc.out;have hnc64:=qt.out;have hcz65_0:w60.cell? ⟨qp,0,none⟩=some (.int .i64 (wrap64 (4*(wrap64 (1+yj))))):=(Hq qc.out 0).trans rfl;have hcz65_1:w60.cell? ⟨qp,1,none⟩=some (.int .i64 (wrap64 (4*(wrap64 (1+yr))))):=(Hq qc.out 1).trans rfl;have hcz65_2:w60.cell? ⟨qp,2,none⟩=some (qy):=(Hq qc.out 2).trans rfl;have hfz65_0:=Hz qc.out 0;have hfz65_1:=Hz qc.out 1;have hfz65_2:=Hz qc.out 2)|((with_reducible refine gate_builtin (b:=.append) (xs:=#[.tmp 61,.tmp 63]) rfl ?_);at_builtin;refine Kd.Q_append (Kd.int .i64) w.heap.size rfl (.tmp 61) (.tmp 63) 22 2 (.int .i64 0) 8 rfl Try.underlying22 info2 rfl (by decide) (by omega) qy yl vy [.int .i64 vy] (fun k_=>some k_≠(.slice yh qz.length yg:Value).ownBlock) (fun _=>False) rfl rfl ?aP (fun _ hk=>hk.elim) ?aF ?aO (Below.refl _ _) ?aS ?aL ?_;(case aP=>exact rfl);(case aF=>exact(fun k_ hk=>Kd.fresh' (Kd.Q_lt (by(with_reducible repeat(first|apply Ht|apply Hs|apply Hn));exact qb.out)) k_ hk));(case aO=>exact(by(with_reducible repeat(first|apply Ht|apply Hs|apply Hn));exact qa.out));(case aS=>exact(keep_size (w:=w) (g:=g) (row:=none) (by repeat(first|(with_reducible first|exact HK.out|apply Hu|apply Hx|apply Hp|apply Hw|refine Hm ?_ yf.out _|refine Hm ?_ yi.out _|refine Hm ?_ yn.out _|refine Hm ?_ yp.out _)|exact HK.out))));(case aL=>have:=LMc57.out;omega);intro v297 w66 ho hb hg hat;rw [← Ny296.out] at ho;have yt:=Ha (Kd.Q_after (ok:=(fun _=>True)) (by(with_reducible repeat(first|apply Ht|apply Hs|apply Hn));exact HD qb.out (fun _ hk=>⟨trivial,hk⟩)) hg hat);have yv:=Ha (blk_grown (g:=qd) (o:=.cells #[.int .i64 0,.int .i64 0,.slice none 0 0] 27 (0,0)) (by(with_reducible repeat(first|refine Hk ?_ _|refine Hi ?_|refine Hj ?_ _));exact qe.out) hg (Kd.Q_ne qa.out qe.out (by decide)));have ys:=Ha (blk_grown (g:=qf) (o:=.cells #[.int .i64 0,.int .i64 0,.slice none 0 0] 27 (0,0)) (by(with_reducible repeat(first|refine Hk ?_ _|refine Hi ?_|refine Hj ?_ _));exact qg.out) hg (Kd.Q_ne qa.out qg.out (by decide)));have yw:=Ha (blk_grown (g:=ya) (o:=.cells #[.int .i64 ye,.int .i64 yd,.slice yh qz.length yg] 27 (0,0)) (by(with_reducible repeat(first|refine Hk ?_ _|refine Hi ?_|refine Hj ?_ _));exact qh.out) hg (Kd.Q_ne qa.out qh.out (by decide)));have yu:=Ha (blk_grown (g:=qp) (o:=.cells #[.int .i64 (wrap64 (4*(wrap64 (1+yj)))),.int .i64 (wrap64 (4*(wrap64 (1+yr)))),qy] 27 (0,0)) (by(with_reducible repeat(first|refine Hk ?_ _|refine Hi ?_|refine Hj ?_ _));exact qc.out) hg (Kd.Q_ne qa.out qc.out (by decide)));have yx:=Ha (IsS84.grown (by repeat(first|(with_reducible first|exact qu.out|apply Hb|apply Hd|apply Hc|apply Hg|apply Hh|refine He ?_ qo.out _|refine He ?_ qq.out _|refine He ?_ qr.out _|refine He ?_ qt.out _)|exact qu.out)) hg (IsS84.own_neQ qu.out qa.out (by decide)));have yy:=Ha (below_weaken (by repeat(first|(with_reducible first|exact HB.out|apply HF|apply Hv|apply Hy|refine Hl ?_ (Hf qu.out)|refine Hl ?_ yo.out|refine Hl ?_ yq.out|refine Hl ?_ za.out|refine Hl ?_ ze.out)|exact HB.out)) HL.out hb);have yz:=Ha (HG (by repeat(first|(with_reducible first|exact HK.out|apply Hu|apply Hx|apply Hp|apply Hw|refine Hm ?_ yf.out _|refine Hm ?_ yi.out _|refine Hm ?_ yn.out _|refine Hm ?_ yp.out _)|exact HK.out)) (KeepBut.of_grown hg g) (Kd.Q_base2 qa.out));have zd:=Ha (ho);clear qb;clear qe;clear qg;clear qh;clear qc;clear qu;clear HB;clear HK;clear qa;have qb:=yt;have qe:=yv;have qg:=ys;have qh:=yw;have qc:=yu;have qu:=yx;have HB:=yy;have HK:=yz;have HO298:=zd;clear yt yv ys yw yu yx yy yz zd;clear ho hb hg hat;obtain⟨Ao67,co67,eo67,_⟩:=Kd.Q_slice HO298.out;subst eo67;have hcz68_0:w66.cell? ⟨qp,0,none⟩=some (.int .i64 (wrap64 (4*(wrap64 (1+yj))))):=(Hq qc.out 0).trans rfl;have hcz68_1:w66.cell? ⟨qp,1,none⟩=some (.int .i64 (wrap64 (4*(wrap64 (1+yr))))):=(Hq qc.out 1).trans rfl;have hcz68_2:w66.cell? ⟨qp,2,none⟩=some (qy):=(Hq qc.out 2).trans rfl;have hfz68_0:=Hz qc.out 0;have hfz68_1:=Hz qc.out 1;have hfz68_2:=Hz qc.out 2))
         go_roundg k1
         case measure=>have:=HK1.out;omega
         case rel=>exact⟨(wrap64 (zm+1)),(vv),(vu),(y296),(.slice Ao67 y296.length co67),(by first|rfl|(simp;done)|(simp [*];done)),H',⟨by have:=HK1.out;omega⟩,⟨by(with_reducible repeat(first|apply Ht|apply Hs|apply Hn));exact HD (HC (p:=⟨qp,2,none⟩) (HJ qb.out qc.out (by decide)) (fun _ hk=>hk.2) (.slice Ao67 y296.length co67)) (fun _ hk=>hk.1.2)⟩,⟨by(with_reducible repeat(first|apply Ht|apply Hs|apply Hn));exact HD (HC (p:=⟨qp,2,none⟩) (HJ HO298.out qc.out (by decide)) (fun _ hk=>hk.2) (.slice Ao67 y296.length co67)) (fun _ hk=>hk.1)⟩,⟨by(with_reducible repeat(first|refine Hk ?_ _|refine Hi ?_|refine Hj ?_ _));refine HE ?_ yc.out _;(with_reducible repeat(first|refine Hk ?_ _|refine Hi ?_|refine Hj ?_ _));exact qe.out⟩,⟨by(with_reducible repeat(first|refine Hk ?_ _|refine Hi ?_|refine Hj ?_ _));refine HE ?_ yb.out _;(with_reducible repeat(first|refine Hk ?_ _|refine Hi ?_|refine Hj ?_ _));exact qg.out⟩,⟨by(with_reducible repeat(first|refine Hk ?_ _|refine Hi ?_|refine Hj ?_ _));refine HE ?_ zb.out _;(with_reducible repeat(first|refine Hk ?_ _|refine Hi ?_|refine Hj ?_ _));exact qh.out⟩,⟨by(with_reducible repeat(first|refine Hk ?_ _|refine Hi ?_|refine Hj ?_ _));refine HI (cs:=#[.int .i64 (wrap64 (4*(wrap64 (1+yj)))),.int .i64 (wrap64 (4*(wrap64 (1+yr)))),qy]) ?_ 2 _ rfl;(with_reducible repeat(first|refine Hk ?_ _|refine Hi ?_|refine Hj ?_ _));exact qc.out⟩,⟨by repeat(first|(with_reducible first|exact qu.out|apply Hb|apply Hd|apply Hc|apply Hg|apply Hh|refine He ?_ qo.out _|refine He ?_ qq.out _|refine He ?_ qr.out _|refine He ?_ qt.out _)|exact qu.out)⟩,⟨by repeat(first|(with_reducible first|exact HK.out|apply Hu|apply Hx|apply Hp|apply Hw|refine Hm ?_ yf.out _|refine Hm ?_ yi.out _|refine Hm ?_ yn.out _|refine Hm ?_ yp.out _)|exact HK.out)⟩,⟨by repeat(first|(with_reducible first|exact HB.out|apply HF|apply Hv|apply Hy|refine Hl ?_ (Hf qu.out)|refine Hl ?_ yo.out|refine Hl ?_ yq.out|refine Hl ?_ za.out|refine Hl ?_ ze.out)|exact HB.out)⟩⟩
        ·rw [if_neg c57] at H
         exact absurd H (by simp)
     ·rw [if_neg c38] at H
      have xb:decide (zm < (wrap64 ((wrap64 (4*(wrap64 (1+yj))))*(wrap64 (4*(wrap64 (1+yr)))))))=false:=decide_eq_false c38
      clear c38
      (first|rw [xb]|(simp only [i64_w,i32_w];rw [xb])|skip)
      have H':=Ha H
      clear H
      go_wp2
      go_meet
      case rel=>exact⟨_,(zt),(zw),((wrap64 (4*(wrap64 (1+yj))))),((wrap64 (4*(wrap64 (1+yr))))),(yl),(qy),H',⟨by have:=HK1.out;first|omega|exact Nat.le_refl _⟩,⟨by(with_reducible repeat(first|apply Ht|apply Hs|apply Hn));exact qb.out⟩,⟨by(with_reducible repeat(first|apply Ht|apply Hs|apply Hn));exact qa.out⟩,⟨by(with_reducible repeat(first|refine Hk ?_ _|refine Hi ?_|refine Hj ?_ _));exact qe.out⟩,⟨by(with_reducible repeat(first|refine Hk ?_ _|refine Hi ?_|refine Hj ?_ _));exact qg.out⟩,⟨by(with_reducible repeat(first|refine Hk ?_ _|refine Hi ?_|refine Hj ?_ _));exact qh.out⟩,⟨by(with_reducible repeat(first|refine Hk ?_ _|refine Hi ?_|refine Hj ?_ _));exact qc.out⟩,⟨by repeat(first|(with_reducible first|exact qu.out|apply Hb|apply Hd|apply Hc|apply Hg|apply Hh|refine He ?_ qo.out _|refine He ?_ qq.out _|refine He ?_ qr.out _|refine He ?_ qt.out _)|exact qu.out)⟩,⟨by repeat(first|(with_reducible first|exact HK.out|apply Hu|apply Hx|apply Hp|apply Hw|refine Hm ?_ yf.out _|refine Hm ?_ yi.out _|refine Hm ?_ yn.out _|refine Hm ?_ yp.out _)|exact HK.out)⟩,⟨by repeat(first|(with_reducible first|exact HB.out|apply HF|apply Hv|apply Hy|refine Hl ?_ (Hf qu.out)|refine Hl ?_ yo.out|refine Hl ?_ yq.out|refine Hl ?_ za.out|refine Hl ?_ ze.out)|exact HB.out)⟩⟩
  ·replace c28:=Bool.eq_false_iff.mpr c28
   subst c28
   have H1:(spec_l14DrawTwo.j1 k (wrap64 (4*(wrap64 (1+yj)))) (wrap64 (4*(wrap64 (1+yr)))) s0_0 t278 t279 ye yd qz vs vt vq)=some (r1,r2,r3,r4,r5,r6,r7,r8):=by rw [if_neg (show ¬ (false=true) by decide)] at H;exact H
   clear H
   have H:=H1
   clear H1
   have H':=Ha H
   clear H
   go_wp2
   go_meet
   case rel=>exact⟨_,(t278),(t279),(vs),(vt),(vq),(.slice Ao26 vq.length co26),H',⟨by first|omega|exact Nat.le_refl _⟩,⟨Kd.Q_of_R (by(with_reducible repeat(first|apply HS|apply HR|apply HH));exact HQ zn.out (fun _ hk=>hk.2))⟩,⟨Kd.Q_of_R (by(with_reducible repeat(first|apply HS|apply HR|apply HH));exact HQ vj.out (fun _ hk=>hk.2))⟩,⟨by(with_reducible repeat(first|refine Hk ?_ _|refine Hi ?_|refine Hj ?_ _));exact qe.out⟩,⟨by(with_reducible repeat(first|refine Hk ?_ _|refine Hi ?_|refine Hj ?_ _));exact qg.out⟩,⟨by(with_reducible repeat(first|refine Hk ?_ _|refine Hi ?_|refine Hj ?_ _));exact qh.out⟩,⟨by(with_reducible repeat(first|refine Hk ?_ _|refine Hi ?_|refine Hj ?_ _));exact qc.out⟩,⟨by repeat(first|(with_reducible first|exact qu.out|apply Hb|apply Hd|apply Hc|apply Hg|apply Hh|refine He ?_ qo.out _|refine He ?_ qq.out _|refine He ?_ qr.out _|refine He ?_ qt.out _)|exact qu.out)⟩,⟨by repeat(first|(with_reducible first|exact HK.out|apply Hu|apply Hx|apply Hp|apply Hw|refine Hm ?_ yf.out _|refine Hm ?_ yi.out _|refine Hm ?_ yn.out _|refine Hm ?_ yp.out _)|exact HK.out)⟩,⟨by repeat(first|(with_reducible first|exact HB.out|apply HF|apply Hv|apply Hy|refine Hl ?_ (Hf qu.out)|refine Hl ?_ yo.out|refine Hl ?_ yq.out|refine Hl ?_ za.out|refine Hl ?_ ze.out)|exact HB.out)⟩⟩
 case rest=>
  clear HC7
  try clear c1
  try clear c2
  try clear p2
  try clear c3
  try clear c4
  try clear c5
  try clear c6
  try clear p6
  try clear c7
  try clear c9
  try clear c14
  try clear c15
  try clear c16
  try clear c21
  try clear c22
  try clear c23
  try clear c24
  try clear c28
  try clear c31
  try clear c32
  try clear c33
  try clear c34
  try clear c38
  try clear xb
  try clear c39
  try clear c39b0
  try clear c39b1
  try clear c42
  try clear c44
  try clear c49
  try clear c50
  try clear c51
  try clear c52
  try clear c57
  try clear c61
  try clear c62
  try clear c63
  try clear c64
  try clear p64
  try clear c65
  try clear hcz17_0
  try clear hcz17_1
  try clear hcz17_2
  try clear hcz25_0
  try clear hcz25_1
  try clear hcz25_2
  try clear hcz35_0
  try clear hcz35_1
  try clear hcz35_2
  try clear hcz53_0
  try clear hcz53_1
  try clear hcz53_2
  try clear hcz56_0
  try clear hcz56_1
  try clear hcz56_2
  try clear hcz65_0
  try clear hcz65_1
  try clear hcz65_2
  try clear hcz68_0
  try clear hcz68_1
  try clear hcz68_2
  try clear hfz17_0
  try clear hfz17_1
  try clear hfz17_2
  try clear hfz25_0
  try clear hfz25_1
  try clear hfz25_2
  try clear hfz35_0
  try clear hfz35_1
  try clear hfz35_2
  try clear hfz53_0
  try clear hfz53_1
  try clear hfz53_2
  try clear hfz56_0
  try clear hfz56_1
  try clear hfz56_2
  try clear hfz65_0
  try clear hfz65_1
  try clear hfz65_2
  try clear hfz68_0
  try clear hfz68_1
  try clear hfz68_2
  try clear p2
  try clear p6
  obtain⟨kq,zj,zi,qi,qj,qs,qy,HA,HJ6,qb,qa,qe,qg,qh,qc,qu,HK,HB⟩:=hcut
  cases kq with
  | zero => exact absurd HA.out (by simp [spec_l14DrawTwo.j1])
  | succ kj6 =>
   have H:=HA.out
   clear HA
   simp only [spec_l14DrawTwo.j1] at H
   replace H:=Option.bind_eq_some_iff.mp H
   obtain⟨⟨t299,vb,vd⟩,A690,H⟩:=H
   replace H:(if t299=true then ((spec_l1Below.f s0_0 vb vd 4).bind fun bt302=>(if bt302.1=0 then ((some (([(-1),256,4611686018427387904]:List Int):List Int)).bind fun zk=>((spec_l1Below.f s0_0 bt302.2.1 bt302.2.2 3).bind fun bt308=>(if 0≤bt308.1 then (if bt308.1 < (zk.length:Int) then (if 0 < (qs.length:Int) then (some (ye,yd,qz,qi,qj,(qs.set (0:Int).toNat (rd zk bt308.1)),bt308.2.1,bt308.2.2)) else (none)) else (none)) else (none)))) else (if bt302.1=1 then ((some (([0,16,20,6,(-4)]:List Int):List Int)).bind fun zl=>((spec_l1Below.f s0_0 bt302.2.1 bt302.2.2 5).bind fun bt316=>(if 0≤bt316.1 then (if bt316.1 < (zl.length:Int) then (some (rd zl bt316.1,yd,qz,qi,qj,qs,bt316.2.1,bt316.2.2)) else (none)) else (none)))) else (if bt302.1=2 then (if 1≤(qs.length:Int) then (some (ye,yd,qz,qi,qj,(qs.drop (1:Int).toNat),bt302.2.1,bt302.2.2)) else (none)) else (if bt302.1=3 then ((spec_l14DrawPicture.f kj6 s0_0 bt302.2.1 bt302.2.2 (wrap64 (4*(wrap64 (1+yr)))) (wrap64 (4*(wrap64 (1+yj))))).bind fun bt323=>(some (ye,yd,qz,bt323.1,bt323.2.1,bt323.2.2.1,bt323.2.2.2.1,bt323.2.2.2.2))) else (some (ye,yd,qz,qi,qj,qs,bt302.2.1,bt302.2.2))))))) else (some (ye,yd,qz,qi,qj,qs,vb,vd)))=some (r1,r2,r3,r4,r5,r6,r7,r8):=H
   have A69:=Ha A690
   clear A690
   by_cases c70:t299=true
   ·subst c70
    have H1:((spec_l1Below.f s0_0 vb vd 4).bind fun bt302=>(if bt302.1=0 then ((some (([(-1),256,4611686018427387904]:List Int):List Int)).bind fun zk=>((spec_l1Below.f s0_0 bt302.2.1 bt302.2.2 3).bind fun bt308=>(if 0≤bt308.1 then (if bt308.1 < (zk.length:Int) then (if 0 < (qs.length:Int) then (some (ye,yd,qz,qi,qj,(qs.set (0:Int).toNat (rd zk bt308.1)),bt308.2.1,bt308.2.2)) else (none)) else (none)) else (none)))) else (if bt302.1=1 then ((some (([0,16,20,6,(-4)]:List Int):List Int)).bind fun zl=>((spec_l1Below.f s0_0 bt302.2.1 bt302.2.2 5).bind fun bt316=>(if 0≤bt316.1 then (if bt316.1 < (zl.length:Int) then (some (rd zl bt316.1,yd,qz,qi,qj,qs,bt316.2.1,bt316.2.2)) else (none)) else (none)))) else (if bt302.1=2 then (if 1≤(qs.length:Int) then (some (ye,yd,qz,qi,qj,(qs.drop (1:Int).toNat),bt302.2.1,bt302.2.2)) else (none)) else (if bt302.1=3 then ((spec_l14DrawPicture.f kj6 s0_0 bt302.2.1 bt302.2.2 (wrap64 (4*(wrap64 (1+yr)))) (wrap64 (4*(wrap64 (1+yj))))).bind fun bt323=>(some (ye,yd,qz,bt323.1,bt323.2.1,bt323.2.2.1,bt323.2.2.2.1,bt323.2.2.2.2))) else (some (ye,yd,qz,qi,qj,qs,bt302.2.1,bt302.2.2)))))))=some (r1,r2,r3,r4,r5,r6,r7,r8):=by rw [if_pos rfl] at H;exact H
    clear H
    have H:=H1
    clear H1
    replace H:=Option.bind_eq_some_iff.mp H
    obtain⟨⟨zu,zx,zy⟩,A710,H⟩:=H
    replace H:(if zu=0 then ((some (([(-1),256,4611686018427387904]:List Int):List Int)).bind fun zk=>((spec_l1Below.f s0_0 zx zy 3).bind fun bt308=>(if 0≤bt308.1 then (if bt308.1 < (zk.length:Int) then (if 0 < (qs.length:Int) then (some (ye,yd,qz,qi,qj,(qs.set (0:Int).toNat (rd zk bt308.1)),bt308.2.1,bt308.2.2)) else (none)) else (none)) else (none)))) else (if zu=1 then ((some (([0,16,20,6,(-4)]:List Int):List Int)).bind fun zl=>((spec_l1Below.f s0_0 zx zy 5).bind fun bt316=>(if 0≤bt316.1 then (if bt316.1 < (zl.length:Int) then (some (rd zl bt316.1,yd,qz,qi,qj,qs,bt316.2.1,bt316.2.2)) else (none)) else (none)))) else (if zu=2 then (if 1≤(qs.length:Int) then (some (ye,yd,qz,qi,qj,(qs.drop (1:Int).toNat),zx,zy)) else (none)) else (if zu=3 then ((spec_l14DrawPicture.f kj6 s0_0 zx zy (wrap64 (4*(wrap64 (1+yr)))) (wrap64 (4*(wrap64 (1+yj))))).bind fun bt323=>(some (ye,yd,qz,bt323.1,bt323.2.1,bt323.2.2.1,bt323.2.2.2.1,bt323.2.2.2.2))) else (some (ye,yd,qz,qi,qj,qs,zx,zy))))))=some (r1,r2,r3,r4,r5,r6,r7,r8):=H
    have A71:=Ha A710
    clear A710
    by_cases c72:zu=0
    ·rw [if_pos c72] at H
     have c72b0:(zu == 0)=true:=beq_iff_eq.mpr c72
     have c72b1:(zu != 0)=false:=bne_eq_false_iff_eq.mpr c72
     clear c72
     obtain⟨zk,hy305⟩:∃ y_:List Int,y_=(([(-1),256,4611686018427387904]:List Int)):=⟨_,rfl⟩
     replace H:((spec_l1Below.f s0_0 zx zy 3).bind fun bt308=>(if 0≤bt308.1 then (if bt308.1 < (zk.length:Int) then (if 0 < (qs.length:Int) then (some (ye,yd,qz,qi,qj,(qs.set (0:Int).toNat (rd zk bt308.1)),bt308.2.1,bt308.2.2)) else (none)) else (none)) else (none)))=some (r1,r2,r3,r4,r5,r6,r7,r8):=by first|(rw [hy305];with_reducible exact H)|(have vw:=(Option.bind_some _ _).symm.trans H;rw [hy305];with_reducible exact vw)|(have vw:=(Option.bind_some _ _).symm.trans H;with_reducible exact vw)|with_reducible exact H|(rw [hy305];exact H)|exact H
     have vz:=Ha hy305
     clear hy305
     replace H:=Option.bind_eq_some_iff.mp H
     obtain⟨⟨zs,t309,t310⟩,A730,H⟩:=H
     replace H:(if 0≤zs then (if zs < (zk.length:Int) then (if 0 < (qs.length:Int) then (some (ye,yd,qz,qi,qj,(qs.set (0:Int).toNat (rd zk zs)),t309,t310)) else (none)) else (none)) else (none))=some (r1,r2,r3,r4,r5,r6,r7,r8):=H
     have A73:=Ha A730
     clear A730
     by_cases c74:0≤zs
     ·rw [if_pos c74] at H
      have c74b0:decide (0≤zs)=true:=decide_eq_true c74
      clear c74
      by_cases c75:zs < (zk.length:Int)
      ·rw [if_pos c75] at H
       have c75b0:decide (zs < (zk.length:Int))=true:=decide_eq_true c75
       clear c75
       by_cases c76:0 < (qs.length:Int)
       ·rw [if_pos c76] at H
        have c76b0:decide (0 < (qs.length:Int))=true:=decide_eq_true c76
        have c76b1:decide (0 < qs.length)=true:=decide_eq_true (by omega)
        clear c76
        obtain⟨y312,hy312⟩:∃ y_:List Int,y_=(qs.set (0:Int).toNat (rd zk zs)):=⟨_,rfl⟩
        replace H:(some (ye,yd,qz,qi,qj,y312,t309,t310))=some (r1,r2,r3,r4,r5,r6,r7,r8):=by first|(rw [hy312];with_reducible exact H)|(have vw:=(Option.bind_some _ _).symm.trans H;rw [hy312];with_reducible exact vw)|(have vw:=(Option.bind_some _ _).symm.trans H;with_reducible exact vw)|with_reducible exact H|(rw [hy312];exact H)|exact H
        have Ny312:=Ha hy312
        clear hy312
        simp only [Option.some.injEq,Prod.mk.injEq] at H
        obtain⟨rfl,rfl,rfl,rfl,rfl,rfl,rfl,rfl⟩:=H
        try go_wp2_with (first|((with_reducible refine HN (f:=64) rfl ?_);refine goesL_ (some 67) rfl rfl Try.func64 (by kernel_rfl) rfl #[.pointer (some ⟨g,0,none⟩),.int .i64 20] rfl (by(try simp only [List.map_toArray,List.map_cons,List.map_nil]);first|done|rfl|(simp only [List.length_drop,List.length_take];rfl)) ?_;(with_reducible refine(spec_l1Once.calls g s0_0 zj zi 20 true vb vd w0 _ ?side1 ?side2 A69.out).mono ?_);(case side1=>repeat(first|(with_reducible first|exact qu.out|apply Hb|apply Hd|apply Hc|apply Hg|apply Hh|refine He ?_ qo.out _|refine He ?_ qq.out _|refine He ?_ qr.out _|refine He ?_ qt.out _)|exact qu.out));(case side2=>repeat(first|(with_reducible first|exact HB.out|apply HF|apply Hv|apply Hy|refine Hl ?_ (Hf qu.out)|refine Hl ?_ yo.out|refine Hl ?_ yq.out|refine Hl ?_ za.out|refine Hl ?_ ze.out)|exact HB.out));rintro e w78 ⟨rfl,hi,hb,hk⟩;refine⟨_,rfl,?_⟩;have yt:=Ha (HD (HM (IsS84.apartQ (show IsS84 w0 _ g s0_0 zj zi from by repeat(first|(with_reducible first|exact qu.out|apply Hb|apply Hd|apply Hc|apply Hg|apply Hh|refine He ?_ qo.out _|refine He ?_ qq.out _|refine He ?_ qr.out _|refine He ?_ qt.out _)|exact qu.out)) (by(with_reducible repeat(first|apply Ht|apply Hs|apply Hn));exact qb.out) (by decide)) hk (fun _ h=>h.2)) (fun _ h=>h.1));have yv:=Ha (HD (HM (IsS84.apartQ (show IsS84 w0 _ g s0_0 zj zi from by repeat(first|(with_reducible first|exact qu.out|apply Hb|apply Hd|apply Hc|apply Hg|apply Hh|refine He ?_ qo.out _|refine He ?_ qq.out _|refine He ?_ qr.out _|refine He ?_ qt.out _)|exact qu.out)) (by(with_reducible repeat(first|apply Ht|apply Hs|apply Hn));exact qa.out) (by decide)) hk (fun _ h=>h.2)) (fun _ h=>h.1));have ys:=Ha (Hr hk (g':=qd) (o:=.cells #[.int .i64 0,.int .i64 0,.slice none 0 0] 27 (0,0)) (by(with_reducible repeat(first|refine Hk ?_ _|refine Hi ?_|refine Hj ?_ _));exact qe.out) zf.out (by simp));have yw:=Ha (Hr hk (g':=qf) (o:=.cells #[.int .i64 0,.int .i64 0,.slice none 0 0] 27 (0,0)) (by(with_reducible repeat(first|refine Hk ?_ _|refine Hi ?_|refine Hj ?_ _));exact qg.out) zg.out (by simp));have yu:=Ha (Hr hk (g':=ya) (o:=.cells #[.int .i64 ye,.int .i64 yd,.slice yh qz.length yg] 27 (0,0)) (by(with_reducible repeat(first|refine Hk ?_ _|refine Hi ?_|refine Hj ?_ _));exact qh.out) zh.out (by simp));have yx:=Ha (Hr hk (g':=qp) (o:=.cells #[.int .i64 qi,.int .i64 qj,qy] 27 (0,0)) (by(with_reducible repeat(first|refine Hk ?_ _|refine Hi ?_|refine Hj ?_ _));exact qc.out) zc.out (by simp));have yy:=Ha (HG (by repeat(first|(with_reducible first|exact HK.out|apply Hu|apply Hx|apply Hp|apply Hw|refine Hm ?_ yf.out _|refine Hm ?_ yi.out _|refine Hm ?_ yn.out _|refine Hm ?_ yp.out _)|exact HK.out)) hk (.inl rfl));have yz:=Ha (hb);have zd:=Ha (hi);clear qb;clear qa;clear qe;clear qg;clear qh;clear qc;clear HK;clear HB;clear qu;have qb:=yt;have qa:=yv;have qe:=ys;have qg:=yw;have qh:=yu;have qc:=yx;have HK:=yy;have HB:=yz;have qu:=zd;clear yt yv ys yw yu yx yy yz zd;(try clear hb);(try clear hb2);(try clear hk);(try clear hi))|((with_reducible refine HN (f:=65) rfl ?_);refine goesL_ (some 69) rfl rfl Try.func65 (by kernel_rfl) rfl #[.pointer (some ⟨g,0,none⟩),.int .i64 4] rfl (by(try simp only [List.map_toArray,List.map_cons,List.map_nil]);first|done|rfl|(simp only [List.length_drop,List.length_take];rfl)) ?_;(with_reducible refine(spec_l1Below.calls g s0_0 vb vd 4 zu zx zy w0 _ ?side1 ?side2 A71.out).mono ?_);(case side1=>repeat(first|(with_reducible first|exact qu.out|apply Hb|apply Hd|apply Hc|apply Hg|apply Hh|refine He ?_ qo.out _|refine He ?_ qq.out _|refine He ?_ qr.out _|refine He ?_ qt.out _)|exact qu.out));(case side2=>repeat(first|(with_reducible first|exact HB.out|apply HF|apply Hv|apply Hy|refine Hl ?_ (Hf qu.out)|refine Hl ?_ yo.out|refine Hl ?_ yq.out|refine Hl ?_ za.out|refine Hl ?_ ze.out)|exact HB.out));rintro e w79 ⟨rfl,hi,hb,hk⟩;refine⟨_,rfl,?_⟩;have yt:=Ha (HD (HM (IsS84.apartQ (show IsS84 w0 _ g s0_0 vb vd from by repeat(first|(with_reducible first|exact qu.out|apply Hb|apply Hd|apply Hc|apply Hg|apply Hh|refine He ?_ qo.out _|refine He ?_ qq.out _|refine He ?_ qr.out _|refine He ?_ qt.out _)|exact qu.out)) (by(with_reducible repeat(first|apply Ht|apply Hs|apply Hn));exact qb.out) (by decide)) hk (fun _ h=>h.2)) (fun _ h=>h.1));have yv:=Ha (HD (HM (IsS84.apartQ (show IsS84 w0 _ g s0_0 vb vd from by repeat(first|(with_reducible first|exact qu.out|apply Hb|apply Hd|apply Hc|apply Hg|apply Hh|refine He ?_ qo.out _|refine He ?_ qq.out _|refine He ?_ qr.out _|refine He ?_ qt.out _)|exact qu.out)) (by(with_reducible repeat(first|apply Ht|apply Hs|apply Hn));exact qa.out) (by decide)) hk (fun _ h=>h.2)) (fun _ h=>h.1));have ys:=Ha (Hr hk (g':=qd) (o:=.cells #[.int .i64 0,.int .i64 0,.slice none 0 0] 27 (0,0)) (by(with_reducible repeat(first|refine Hk ?_ _|refine Hi ?_|refine Hj ?_ _));exact qe.out) zf.out (by simp));have yw:=Ha (Hr hk (g':=qf) (o:=.cells #[.int .i64 0,.int .i64 0,.slice none 0 0] 27 (0,0)) (by(with_reducible repeat(first|refine Hk ?_ _|refine Hi ?_|refine Hj ?_ _));exact qg.out) zg.out (by simp));have yu:=Ha (Hr hk (g':=ya) (o:=.cells #[.int .i64 ye,.int .i64 yd,.slice yh qz.length yg] 27 (0,0)) (by(with_reducible repeat(first|refine Hk ?_ _|refine Hi ?_|refine Hj ?_ _));exact qh.out) zh.out (by simp));have yx:=Ha (Hr hk (g':=qp) (o:=.cells #[.int .i64 qi,.int .i64 qj,qy] 27 (0,0)) (by(with_reducible repeat(first|refine Hk ?_ _|refine Hi ?_|refine Hj ?_ _));exact qc.out) zc.out (by simp));have yy:=Ha (HG (by repeat(first|(with_reducible first|exact HK.out|apply Hu|apply Hx|apply Hp|apply Hw|refine Hm ?_ yf.out _|refine Hm ?_ yi.out _|refine Hm ?_ yn.out _|refine Hm ?_ yp.out _)|exact HK.out)) hk (.inl rfl));have yz:=Ha (hb);have zd:=Ha (hi);clear qb;clear qa;clear qe;clear qg;clear qh;clear qc;clear HK;clear HB;clear qu;have qb:=yt;have qa:=yv;have qe:=ys;have qg:=yw;have qh:=yu;have qc:=yx;have HK:=yy;have HB:=yz;have qu:=zd;clear yt yv ys yw yu yx yy yz zd;(try clear hb);(try clear hb2);(try clear hk);(try clear hi)))
        have pi311:(0≤(zs:Int))=True:=eq_true (of_decide_eq_true (by first|(with_reducible assumption)|assumption))
        have qi311:(zs < (zk.length:Int))=True:=eq_true (of_decide_eq_true (by first|(with_reducible assumption)|assumption))
        have yt:=Ha (Hn qb.out)
        have yv:=Ha (Hn qa.out)
        have ys:=Ha (Hi qe.out)
        have yw:=Ha (Hi qg.out)
        have yu:=Ha (Hi qh.out)
        have yx:=Ha (Hi qc.out)
        have yy:=Ha (Hc qu.out)
        have yz:=Ha (Hp HK.out)
        have zd:=Ha (Hy HB.out)
        clear qb
        clear qa
        clear qe
        clear qg
        clear qh
        clear qc
        clear qu
        clear HK
        clear HB
        have qb:=yt
        have qa:=yv
        have qe:=ys
        have qg:=yw
        have qh:=yu
        have qc:=yx
        have qu:=yy
        have HK:=yz
        have HB:=zd
        clear yt yv ys yw yu yx yy yz zd
        refine start_ (n:=9) (S:=fun w'=>w'.cell? ⟨qp,0,none⟩=some (.int .i64 qi)∧w'.cell? ⟨qp,1,none⟩=some (.int .i64 qj)∧w'.cell? ⟨qp,2,none⟩=some (qy)) (ds:=[8]) #[false,false,false,false,false,false,false,false,false] (by kernel_rfl) rfl rfl ⟨(Hq qc.out 0).trans rfl,(Hq qc.out 1).trans rfl,(Hq qc.out 2).trans rfl⟩ (fun qx=>?_);refine with_tabW spec_l14DrawTwo.tab19 spec_l14DrawTwo.bits19 (fun HT_ HW_=>?_)
        generalize w79.drew=w80 at qb qa qe qg qh qc qu HK HB qx ⊢
        refine pure_ (i:=0) (N:=some 72) (v:=?_) (a':=?_) #[true,false,false,false,false,false,false,false,false] rfl rfl (any_of HT_.out (by kernel_rfl)) (fun _ _ _ h=>h) (Or.inl ⟨by rfl,?_⟩) ?_ ?_
        rotate_left
        ·intro w'
         go_simp
         with_reducible rfl
        rotate_left
        ·simp only [Act.put,List.setIfInBounds_toArray,List.set_cons_zero,List.set_cons_succ,i64_w,i32_w]
         rfl
        refine pure_ (i:=3) (N:=some 75) (v:=?_) (a':=?_) #[true,false,false,true,false,false,false,false,false] rfl rfl (any_of HT_.out (by kernel_rfl)) (fun _ _ _ h=>h) (Or.inl ⟨by rfl,?_⟩) ?_ ?_
        rotate_left
        ·intro w'
         go_simp
         with_reducible rfl
        rotate_left
        ·simp only [Act.put,List.setIfInBounds_toArray,List.set_cons_zero,List.set_cons_succ,i64_w,i32_w]
         rfl
        refine take_ (i:=1) (N:=some 73) (v:=?_) (a':=?_) #[true,true,false,true,false,false,false,false,false] rfl rfl (take_ofW HT_.out HW_.out (by kernel_rfl)) (fun _ _ _ h=>h) (Or.inl ⟨by rfl,?_⟩) qx ?_ ?_
        rotate_left
        ·rintro w' ⟨s0,s1,s2⟩
         go_simp
         with_reducible rfl
        rotate_left
        ·simp only [Act.put,List.setIfInBounds_toArray,List.set_cons_zero,List.set_cons_succ,i64_w,i32_w]
         rfl
        refine join_ (σ:=Value × Addr) 4 #[true,true,true,true,true,false,false,false,false] (fun s_=>[(74,s_.1),(76,.int .i64 zs)]) (fun s_ w'=>(w'.cell? ⟨qp,0,none⟩=some (.int .i64 qi)∧w'.cell? ⟨qp,1,none⟩=some (.int .i64 qj)∧w'.cell? ⟨qp,2,none⟩=some (qy))∧(Kd.R (Kd.int .i64) 2 w' w.heap.size (fun k_=>some k_≠(.slice yh qz.length yg:Value).ownBlock∧some k_≠(qy:Value).ownBlock) s_.1 zk)∧(Kd.Q (Kd.int .i64) 2 w' w.heap.size (fun k_=>some k_≠(s_.1:Value).ownBlock∧some k_≠(qy:Value).ownBlock) (.slice yh qz.length yg) qz)∧(Kd.Q (Kd.int .i64) 2 w' w.heap.size (fun k_=>some k_≠(s_.1:Value).ownBlock∧some k_≠(.slice yh qz.length yg:Value).ownBlock) qy qs)∧(∃ c_,(s_.1:Value)=.slice (some s_.2) zk.length c_)∧(w'.heap[qd]? = some (.cells #[.int .i64 0,.int .i64 0,.slice none 0 0] 27 (0,0)))∧(w'.heap[qf]? = some (.cells #[.int .i64 0,.int .i64 0,.slice none 0 0] 27 (0,0)))∧(w'.heap[ya]? = some (.cells #[.int .i64 ye,.int .i64 yd,.slice yh qz.length yg] 27 (0,0)))∧(w'.heap[qp]? = some (.cells #[.int .i64 qi,.int .i64 qj,qy] 27 (0,0)))∧(IsS84 w0 w' g s0_0 t309 t310)∧(KeepBut w w' g none)∧(Below w0.heap.size w0 w')) ?_ ?_
        rotate_left
        ·intro hCont
         refine two_ (i:=2) (j:=4) (Ni:=some 74) (Nj:=some 76) #[true,true,true,true,false,false,false,false,false] #[true,true,false,true,true,false,false,false,false] rfl rfl rfl rfl (two_of HT_.out (by kernel_rfl)) (by decide) (by decide) (fun K hK=>?_) (fun K hK=>?_)
         ·skip
          refine Kd.R_lit_step (Kd.int .i64) _ 2 ?hg (N:=74) ?hd (xs:=([(-1),256,4611686018427387904]:List Int)) (inner:=[.int .i64 (-1),.int .i64 256,.int .i64 4611686018427387904]) (ok:=fun _=>True) (okp:=fun _=>True) ?hr ?hp (fun _ hk=>hk) trivial (Below.refl _ _) (Nat.le_refl _) (by simp) ?_;(case hd=>rfl);(case hg=>rfl);(case hr=>first|(go_simp;done)|(go_simp;rfl));(case hp=>exact(Reps.one (show Kd.M (Kd.int .i64) _ _ _ (-1) [.int .i64 (-1)] from rfl) (Reps.one (show Kd.M (Kd.int .i64) _ _ _ 256 [.int .i64 256] from rfl) (Reps.one (show Kd.M (Kd.int .i64) _ _ _ 4611686018427387904 [.int .i64 4611686018427387904] from rfl) (Reps.none _ _)))))
          intro v306 w81 ho82 hb hg_ hnew_
          clear hg_ hnew_
          (first|rw [← vz.out] at ho82|(simp only [Int.reduceToNat] at ho82;rw [← vz.out] at ho82))
          have yt:=Ha (Kd.Q_elder' (by(with_reducible repeat(first|apply Ht|apply Hs|apply Hn));exact qb.out) (Kd.R_base ho82) hb)
          have yv:=Ha (Kd.Q_elder' (by(with_reducible repeat(first|apply Ht|apply Hs|apply Hn));exact qa.out) (Kd.R_base ho82) hb)
          have ys:=Ha (Kd.R_lower (Kd.R_new' (Kd.R_new' ho82 (Kd.Q_lt (by(with_reducible repeat(first|apply Ht|apply Hs|apply Hn));exact qb.out))) (Kd.Q_lt (by(with_reducible repeat(first|apply Ht|apply Hs|apply Hn));exact qa.out))) (keep_size (w:=w) (g:=g) (row:=none) (by repeat(first|(with_reducible first|exact HK.out|apply Hu|apply Hx|apply Hp|apply Hw|refine Hm ?_ yf.out _|refine Hm ?_ yi.out _|refine Hm ?_ yn.out _|refine Hm ?_ yp.out _)|exact HK.out))))
          have yw:=Ha (HO (g:=qd) (o:=.cells #[.int .i64 0,.int .i64 0,.slice none 0 0] 27 (0,0)) (by(with_reducible repeat(first|refine Hk ?_ _|refine Hi ?_|refine Hj ?_ _));exact qe.out) hb)
          have yu:=Ha (HO (g:=qf) (o:=.cells #[.int .i64 0,.int .i64 0,.slice none 0 0] 27 (0,0)) (by(with_reducible repeat(first|refine Hk ?_ _|refine Hi ?_|refine Hj ?_ _));exact qg.out) hb)
          have yx:=Ha (HO (g:=ya) (o:=.cells #[.int .i64 ye,.int .i64 yd,.slice yh qz.length yg] 27 (0,0)) (by(with_reducible repeat(first|refine Hk ?_ _|refine Hi ?_|refine Hj ?_ _));exact qh.out) hb)
          have yy:=Ha (HO (g:=qp) (o:=.cells #[.int .i64 qi,.int .i64 qj,qy] 27 (0,0)) (by(with_reducible repeat(first|refine Hk ?_ _|refine Hi ?_|refine Hj ?_ _));exact qc.out) hb)
          have yz:=Ha (IsS84.below (by repeat(first|(with_reducible first|exact qu.out|apply Hb|apply Hd|apply Hc|apply Hg|apply Hh|refine He ?_ qo.out _|refine He ?_ qq.out _|refine He ?_ qr.out _|refine He ?_ qt.out _)|exact qu.out)) hb)
          have zd:=Ha (HG (by repeat(first|(with_reducible first|exact HK.out|apply Hu|apply Hx|apply Hp|apply Hw|refine Hm ?_ yf.out _|refine Hm ?_ yi.out _|refine Hm ?_ yn.out _|refine Hm ?_ yp.out _)|exact HK.out)) (KeepBut.of_below hb g none) (.inl rfl))
          have ve:=Ha (below_step (by repeat(first|(with_reducible first|exact HB.out|apply HF|apply Hv|apply Hy|refine Hl ?_ (Hf qu.out)|refine Hl ?_ yo.out|refine Hl ?_ yq.out|refine Hl ?_ za.out|refine Hl ?_ ze.out)|exact HB.out)) hb)
          clear qb
          clear qa
          clear qe
          clear qg
          clear qh
          clear qc
          clear qu
          clear HK
          clear HB
          have qb:=yt
          have qa:=yv
          have zv:=ys
          have qe:=yw
          have qg:=yu
          have qh:=yx
          have qc:=yy
          have qu:=yz
          have HK:=zd
          have HB:=ve
          clear yt yv ys yw yu yx yy yz zd ve
          clear hb ho82
          obtain⟨Ao83,co83,eo83⟩:=Kd.R_slice zv.out
          subst eo83
          obtain⟨ado83,fo83,_⟩:=Kd.at_int (Kd.R_reads' zv.out).2.2 0 (by decide) (by rw [vz.out];simp)
          cases fo83
          refine hK.out _ _ ⟨(Hq qc.out 0).trans rfl,(Hq qc.out 1).trans rfl,(Hq qc.out 2).trans rfl⟩ (fun qx=>?_)
          clear hK K
          refine norm_ (a':=?_) ?_ ?_
          rotate_left
          ·show Act.put _ (some 74) _=_
           simp only [Act.put,List.setIfInBounds_toArray,List.set_cons_zero,List.set_cons_succ,i64_w,i32_w]
           rfl
          refine one_ (i:=4) (N:=some 76) #[true,true,true,true,true,false,false,false,false] rfl rfl (one_of HT_.out (by kernel_rfl)) (by decide) (fun K hK=>?_)
          refine goes_ Try.func65 (by kernel_rfl) rfl #[.pointer (some ⟨g,0,none⟩),.int .i64 3] (by rfl) rfl rfl (by(try simp only [List.map_toArray,List.map_cons,List.map_nil]);first|done|rfl|(simp only [List.length_drop,List.length_take];rfl)) ?_
          with_reducible refine(spec_l1Below.calls g s0_0 zx zy 3 zs t309 t310 w0 _ ?side1 ?side2 A73.out).mono ?_
          (case side1=>repeat(first|(with_reducible first|exact qu.out|apply Hb|apply Hd|apply Hc|apply Hg|apply Hh|refine He ?_ qo.out _|refine He ?_ qq.out _|refine He ?_ qr.out _|refine He ?_ qt.out _)|exact qu.out))
          (case side2=>repeat(first|(with_reducible first|exact HB.out|apply HF|apply Hv|apply Hy|refine Hl ?_ (Hf qu.out)|refine Hl ?_ yo.out|refine Hl ?_ yq.out|refine Hl ?_ za.out|refine Hl ?_ ze.out)|exact HB.out))
          rintro e w84 ⟨rfl,hi,hb,hk⟩
          refine⟨_,rfl,?_⟩
          have yt:=Ha (HD (HM (IsS84.apartQ (show IsS84 w0 _ g s0_0 zx zy from by repeat(first|(with_reducible first|exact qu.out|apply Hb|apply Hd|apply Hc|apply Hg|apply Hh|refine He ?_ qo.out _|refine He ?_ qq.out _|refine He ?_ qr.out _|refine He ?_ qt.out _)|exact qu.out)) (by(with_reducible repeat(first|apply Ht|apply Hs|apply Hn));exact qb.out) (by decide)) hk (fun _ h=>h.2)) (fun _ h=>h.1))
          have yv:=Ha (HD (HM (IsS84.apartQ (show IsS84 w0 _ g s0_0 zx zy from by repeat(first|(with_reducible first|exact qu.out|apply Hb|apply Hd|apply Hc|apply Hg|apply Hh|refine He ?_ qo.out _|refine He ?_ qq.out _|refine He ?_ qr.out _|refine He ?_ qt.out _)|exact qu.out)) (by(with_reducible repeat(first|apply Ht|apply Hs|apply Hn));exact qa.out) (by decide)) hk (fun _ h=>h.2)) (fun _ h=>h.1))
          have ys:=Ha (Hr hk (g':=qd) (o:=.cells #[.int .i64 0,.int .i64 0,.slice none 0 0] 27 (0,0)) (by(with_reducible repeat(first|refine Hk ?_ _|refine Hi ?_|refine Hj ?_ _));exact qe.out) zf.out (by simp))
          have yw:=Ha (Hr hk (g':=qf) (o:=.cells #[.int .i64 0,.int .i64 0,.slice none 0 0] 27 (0,0)) (by(with_reducible repeat(first|refine Hk ?_ _|refine Hi ?_|refine Hj ?_ _));exact qg.out) zg.out (by simp))
          have yu:=Ha (Hr hk (g':=ya) (o:=.cells #[.int .i64 ye,.int .i64 yd,.slice yh qz.length yg] 27 (0,0)) (by(with_reducible repeat(first|refine Hk ?_ _|refine Hi ?_|refine Hj ?_ _));exact qh.out) zh.out (by simp))
          have yx:=Ha (Hr hk (g':=qp) (o:=.cells #[.int .i64 qi,.int .i64 qj,qy] 27 (0,0)) (by(with_reducible repeat(first|refine Hk ?_ _|refine Hi ?_|refine Hj ?_ _));exact qc.out) zc.out (by simp))
          have yy:=Ha (HQ (Kd.R_keep (IsS84.apart (show IsS84 w0 _ g s0_0 zx zy from by repeat(first|(with_reducible first|exact qu.out|apply Hb|apply Hd|apply Hc|apply Hg|apply Hh|refine He ?_ qo.out _|refine He ?_ qq.out _|refine He ?_ qr.out _|refine He ?_ qt.out _)|exact qu.out)) (by(with_reducible repeat(first|apply HS|apply HR|apply HH));exact zv.out) (by decide)) hk (fun _ h=>h.2)) (fun _ h=>h.1))
          have yz:=Ha (HG (by repeat(first|(with_reducible first|exact HK.out|apply Hu|apply Hx|apply Hp|apply Hw|refine Hm ?_ yf.out _|refine Hm ?_ yi.out _|refine Hm ?_ yn.out _|refine Hm ?_ yp.out _)|exact HK.out)) hk (.inl rfl))
          have zd:=Ha (hb)
          have ve:=Ha (hi)
          clear qb
          clear qa
          clear qe
          clear qg
          clear qh
          clear qc
          clear zv
          clear HK
          clear HB
          clear qu
          have qb:=yt
          have qa:=yv
          have qe:=ys
          have qg:=yw
          have qh:=yu
          have qc:=yx
          have zv:=yy
          have HK:=yz
          have HB:=zd
          have qu:=ve
          clear yt yv ys yw yu yx yy yz zd ve
          (try clear hb)
          (try clear hb2)
          (try clear hk)
          (try clear hi)
          refine hK.out _ _ ⟨(Hq qc.out 0).trans rfl,(Hq qc.out 1).trans rfl,(Hq qc.out 2).trans rfl⟩ (fun qx=>?_)
          clear hK K
          refine norm_ (a':=?_) ?_ ?_
          rotate_left
          ·show Act.put _ (some 76) _=_
           simp only [Act.put,List.setIfInBounds_toArray,List.set_cons_zero,List.set_cons_succ,i64_w,i32_w]
           rfl
          exact norm_ (by simp only [putAll,Act.put,List.setIfInBounds_toArray,List.set_cons_zero,List.set_cons_succ]) (hCont (.slice (some ado83) zk.length co83,ado83) _ ⟨qx,(by(with_reducible repeat(first|apply HS|apply HR|apply HH));exact HQ zv.out (fun _ hk=>⟨hk.1.2,hk.2⟩)),(by(with_reducible repeat(first|apply Ht|apply Hs|apply Hn));exact HD qb.out (fun _ hk=>⟨hk.2,hk.1⟩)),(by(with_reducible repeat(first|apply Ht|apply Hs|apply Hn));exact HD qa.out (fun _ hk=>⟨hk.2,hk.1⟩)),⟨_,rfl⟩,(by(with_reducible repeat(first|refine Hk ?_ _|refine Hi ?_|refine Hj ?_ _));exact qe.out),(by(with_reducible repeat(first|refine Hk ?_ _|refine Hi ?_|refine Hj ?_ _));exact qg.out),(by(with_reducible repeat(first|refine Hk ?_ _|refine Hi ?_|refine Hj ?_ _));exact qh.out),(by(with_reducible repeat(first|refine Hk ?_ _|refine Hi ?_|refine Hj ?_ _));exact qc.out),(by repeat(first|(with_reducible first|exact qu.out|apply Hb|apply Hd|apply Hc|apply Hg|apply Hh|refine He ?_ qo.out _|refine He ?_ qq.out _|refine He ?_ qr.out _|refine He ?_ qt.out _)|exact qu.out)),(by repeat(first|(with_reducible first|exact HK.out|apply Hu|apply Hx|apply Hp|apply Hw|refine Hm ?_ yf.out _|refine Hm ?_ yi.out _|refine Hm ?_ yn.out _|refine Hm ?_ yp.out _)|exact HK.out)),(by repeat(first|(with_reducible first|exact HB.out|apply HF|apply Hv|apply Hy|refine Hl ?_ (Hf qu.out)|refine Hl ?_ yo.out|refine Hl ?_ yq.out|refine Hl ?_ za.out|refine Hl ?_ ze.out)|exact HB.out))⟩)
         ·skip
          refine goes_ Try.func65 (by kernel_rfl) rfl #[.pointer (some ⟨g,0,none⟩),.int .i64 3] (by rfl) rfl rfl (by(try simp only [List.map_toArray,List.map_cons,List.map_nil]);first|done|rfl|(simp only [List.length_drop,List.length_take];rfl)) ?_
          with_reducible refine(spec_l1Below.calls g s0_0 zx zy 3 zs t309 t310 w0 _ ?side1 ?side2 A73.out).mono ?_
          (case side1=>repeat(first|(with_reducible first|exact qu.out|apply Hb|apply Hd|apply Hc|apply Hg|apply Hh|refine He ?_ qo.out _|refine He ?_ qq.out _|refine He ?_ qr.out _|refine He ?_ qt.out _)|exact qu.out))
          (case side2=>repeat(first|(with_reducible first|exact HB.out|apply HF|apply Hv|apply Hy|refine Hl ?_ (Hf qu.out)|refine Hl ?_ yo.out|refine Hl ?_ yq.out|refine Hl ?_ za.out|refine Hl ?_ ze.out)|exact HB.out))
          rintro e w81 ⟨rfl,hi,hb,hk⟩
          refine⟨_,rfl,?_⟩
          have yt:=Ha (HD (HM (IsS84.apartQ (show IsS84 w0 _ g s0_0 zx zy from by repeat(first|(with_reducible first|exact qu.out|apply Hb|apply Hd|apply Hc|apply Hg|apply Hh|refine He ?_ qo.out _|refine He ?_ qq.out _|refine He ?_ qr.out _|refine He ?_ qt.out _)|exact qu.out)) (by(with_reducible repeat(first|apply Ht|apply Hs|apply Hn));exact qb.out) (by decide)) hk (fun _ h=>h.2)) (fun _ h=>h.1))
          have yv:=Ha (HD (HM (IsS84.apartQ (show IsS84 w0 _ g s0_0 zx zy from by repeat(first|(with_reducible first|exact qu.out|apply Hb|apply Hd|apply Hc|apply Hg|apply Hh|refine He ?_ qo.out _|refine He ?_ qq.out _|refine He ?_ qr.out _|refine He ?_ qt.out _)|exact qu.out)) (by(with_reducible repeat(first|apply Ht|apply Hs|apply Hn));exact qa.out) (by decide)) hk (fun _ h=>h.2)) (fun _ h=>h.1))
          have ys:=Ha (Hr hk (g':=qd) (o:=.cells #[.int .i64 0,.int .i64 0,.slice none 0 0] 27 (0,0)) (by(with_reducible repeat(first|refine Hk ?_ _|refine Hi ?_|refine Hj ?_ _));exact qe.out) zf.out (by simp))
          have yw:=Ha (Hr hk (g':=qf) (o:=.cells #[.int .i64 0,.int .i64 0,.slice none 0 0] 27 (0,0)) (by(with_reducible repeat(first|refine Hk ?_ _|refine Hi ?_|refine Hj ?_ _));exact qg.out) zg.out (by simp))
          have yu:=Ha (Hr hk (g':=ya) (o:=.cells #[.int .i64 ye,.int .i64 yd,.slice yh qz.length yg] 27 (0,0)) (by(with_reducible repeat(first|refine Hk ?_ _|refine Hi ?_|refine Hj ?_ _));exact qh.out) zh.out (by simp))
          have yx:=Ha (Hr hk (g':=qp) (o:=.cells #[.int .i64 qi,.int .i64 qj,qy] 27 (0,0)) (by(with_reducible repeat(first|refine Hk ?_ _|refine Hi ?_|refine Hj ?_ _));exact qc.out) zc.out (by simp))
          have yy:=Ha (HG (by repeat(first|(with_reducible first|exact HK.out|apply Hu|apply Hx|apply Hp|apply Hw|refine Hm ?_ yf.out _|refine Hm ?_ yi.out _|refine Hm ?_ yn.out _|refine Hm ?_ yp.out _)|exact HK.out)) hk (.inl rfl))
          have yz:=Ha (hb)
          have zd:=Ha (hi)
          clear qb
          clear qa
          clear qe
          clear qg
          clear qh
          clear qc
          clear HK
          clear HB
          clear qu
          have qb:=yt
          have qa:=yv
          have qe:=ys
          have qg:=yw
          have qh:=yu
          have qc:=yx
          have HK:=yy
          have HB:=yz
          have qu:=zd
          clear yt yv ys yw yu yx yy yz zd
          (try clear hb)
          (try clear hb2)
          (try clear hk)
          (try clear hi)
          refine hK.out _ _ ⟨(Hq qc.out 0).trans rfl,(Hq qc.out 1).trans rfl,(Hq qc.out 2).trans rfl⟩ (fun qx=>?_)
          clear hK K
          refine norm_ (a':=?_) ?_ ?_
          rotate_left
          ·show Act.put _ (some 76) _=_
           simp only [Act.put,List.setIfInBounds_toArray,List.set_cons_zero,List.set_cons_succ,i64_w,i32_w]
           rfl
          refine one_ (i:=2) (N:=some 74) #[true,true,true,true,true,false,false,false,false] rfl rfl (one_of HT_.out (by kernel_rfl)) (by decide) (fun K hK=>?_)
          refine Kd.R_lit_step (Kd.int .i64) _ 2 ?hg (N:=74) ?hd (xs:=([(-1),256,4611686018427387904]:List Int)) (inner:=[.int .i64 (-1),.int .i64 256,.int .i64 4611686018427387904]) (ok:=fun _=>True) (okp:=fun _=>True) ?hr ?hp (fun _ hk=>hk) trivial (Below.refl _ _) (Nat.le_refl _) (by simp) ?_;(case hd=>rfl);(case hg=>rfl);(case hr=>first|(go_simp;done)|(go_simp;rfl));(case hp=>exact(Reps.one (show Kd.M (Kd.int .i64) _ _ _ (-1) [.int .i64 (-1)] from rfl) (Reps.one (show Kd.M (Kd.int .i64) _ _ _ 256 [.int .i64 256] from rfl) (Reps.one (show Kd.M (Kd.int .i64) _ _ _ 4611686018427387904 [.int .i64 4611686018427387904] from rfl) (Reps.none _ _)))))
          intro v306 w82 ho83 hb hg_ hnew_
          clear hg_ hnew_
          (first|rw [← vz.out] at ho83|(simp only [Int.reduceToNat] at ho83;rw [← vz.out] at ho83))
          have yt:=Ha (Kd.Q_elder' (by(with_reducible repeat(first|apply Ht|apply Hs|apply Hn));exact qb.out) (Kd.R_base ho83) hb)
          have yv:=Ha (Kd.Q_elder' (by(with_reducible repeat(first|apply Ht|apply Hs|apply Hn));exact qa.out) (Kd.R_base ho83) hb)
          have ys:=Ha (Kd.R_lower (Kd.R_new' (Kd.R_new' ho83 (Kd.Q_lt (by(with_reducible repeat(first|apply Ht|apply Hs|apply Hn));exact qb.out))) (Kd.Q_lt (by(with_reducible repeat(first|apply Ht|apply Hs|apply Hn));exact qa.out))) (keep_size (w:=w) (g:=g) (row:=none) (by repeat(first|(with_reducible first|exact HK.out|apply Hu|apply Hx|apply Hp|apply Hw|refine Hm ?_ yf.out _|refine Hm ?_ yi.out _|refine Hm ?_ yn.out _|refine Hm ?_ yp.out _)|exact HK.out))))
          have yw:=Ha (HO (g:=qd) (o:=.cells #[.int .i64 0,.int .i64 0,.slice none 0 0] 27 (0,0)) (by(with_reducible repeat(first|refine Hk ?_ _|refine Hi ?_|refine Hj ?_ _));exact qe.out) hb)
          have yu:=Ha (HO (g:=qf) (o:=.cells #[.int .i64 0,.int .i64 0,.slice none 0 0] 27 (0,0)) (by(with_reducible repeat(first|refine Hk ?_ _|refine Hi ?_|refine Hj ?_ _));exact qg.out) hb)
          have yx:=Ha (HO (g:=ya) (o:=.cells #[.int .i64 ye,.int .i64 yd,.slice yh qz.length yg] 27 (0,0)) (by(with_reducible repeat(first|refine Hk ?_ _|refine Hi ?_|refine Hj ?_ _));exact qh.out) hb)
          have yy:=Ha (HO (g:=qp) (o:=.cells #[.int .i64 qi,.int .i64 qj,qy] 27 (0,0)) (by(with_reducible repeat(first|refine Hk ?_ _|refine Hi ?_|refine Hj ?_ _));exact qc.out) hb)
          have yz:=Ha (IsS84.below (by repeat(first|(with_reducible first|exact qu.out|apply Hb|apply Hd|apply Hc|apply Hg|apply Hh|refine He ?_ qo.out _|refine He ?_ qq.out _|refine He ?_ qr.out _|refine He ?_ qt.out _)|exact qu.out)) hb)
          have zd:=Ha (HG (by repeat(first|(with_reducible first|exact HK.out|apply Hu|apply Hx|apply Hp|apply Hw|refine Hm ?_ yf.out _|refine Hm ?_ yi.out _|refine Hm ?_ yn.out _|refine Hm ?_ yp.out _)|exact HK.out)) (KeepBut.of_below hb g none) (.inl rfl))
          have ve:=Ha (below_step (by repeat(first|(with_reducible first|exact HB.out|apply HF|apply Hv|apply Hy|refine Hl ?_ (Hf qu.out)|refine Hl ?_ yo.out|refine Hl ?_ yq.out|refine Hl ?_ za.out|refine Hl ?_ ze.out)|exact HB.out)) hb)
          clear qb
          clear qa
          clear qe
          clear qg
          clear qh
          clear qc
          clear qu
          clear HK
          clear HB
          have qb:=yt
          have qa:=yv
          have zv:=ys
          have qe:=yw
          have qg:=yu
          have qh:=yx
          have qc:=yy
          have qu:=yz
          have HK:=zd
          have HB:=ve
          clear yt yv ys yw yu yx yy yz zd ve
          clear hb ho83
          obtain⟨Ao84,co84,eo84⟩:=Kd.R_slice zv.out
          subst eo84
          obtain⟨ado84,fo84,_⟩:=Kd.at_int (Kd.R_reads' zv.out).2.2 0 (by decide) (by rw [vz.out];simp)
          cases fo84
          refine hK.out _ _ ⟨(Hq qc.out 0).trans rfl,(Hq qc.out 1).trans rfl,(Hq qc.out 2).trans rfl⟩ (fun qx=>?_)
          clear hK K
          refine norm_ (a':=?_) ?_ ?_
          rotate_left
          ·show Act.put _ (some 74) _=_
           simp only [Act.put,List.setIfInBounds_toArray,List.set_cons_zero,List.set_cons_succ,i64_w,i32_w]
           rfl
          exact norm_ (by simp only [putAll,Act.put,List.setIfInBounds_toArray,List.set_cons_zero,List.set_cons_succ]) (hCont (.slice (some ado84) zk.length co84,ado84) _ ⟨qx,(by(with_reducible repeat(first|apply HS|apply HR|apply HH));exact HQ zv.out (fun _ hk=>⟨hk.1.2,hk.2⟩)),(by(with_reducible repeat(first|apply Ht|apply Hs|apply Hn));exact HD qb.out (fun _ hk=>⟨hk.2,hk.1⟩)),(by(with_reducible repeat(first|apply Ht|apply Hs|apply Hn));exact HD qa.out (fun _ hk=>⟨hk.2,hk.1⟩)),⟨_,rfl⟩,(by(with_reducible repeat(first|refine Hk ?_ _|refine Hi ?_|refine Hj ?_ _));exact qe.out),(by(with_reducible repeat(first|refine Hk ?_ _|refine Hi ?_|refine Hj ?_ _));exact qg.out),(by(with_reducible repeat(first|refine Hk ?_ _|refine Hi ?_|refine Hj ?_ _));exact qh.out),(by(with_reducible repeat(first|refine Hk ?_ _|refine Hi ?_|refine Hj ?_ _));exact qc.out),(by repeat(first|(with_reducible first|exact qu.out|apply Hb|apply Hd|apply Hc|apply Hg|apply Hh|refine He ?_ qo.out _|refine He ?_ qq.out _|refine He ?_ qr.out _|refine He ?_ qt.out _)|exact qu.out)),(by repeat(first|(with_reducible first|exact HK.out|apply Hu|apply Hx|apply Hp|apply Hw|refine Hm ?_ yf.out _|refine Hm ?_ yi.out _|refine Hm ?_ yn.out _|refine Hm ?_ yp.out _)|exact HK.out)),(by repeat(first|(with_reducible first|exact HB.out|apply HF|apply Hv|apply Hy|refine Hl ?_ (Hf qu.out)|refine Hl ?_ yo.out|refine Hl ?_ yq.out|refine Hl ?_ za.out|refine Hl ?_ ze.out)|exact HB.out))⟩)
        rintro⟨v306,vm⟩ w85 ⟨hS_,h0_,h1_,h2_,h3_,h4_,h5_,h6_,h7_,h8_,h9_,h10_⟩
        have yt:Aside0 (Kd.R (Kd.int .i64) 2 w85 w.heap.size (fun k_=>some k_≠(.slice yh qz.length yg:Value).ownBlock∧some k_≠(qy:Value).ownBlock) v306 zk):=⟨h0_⟩
        have yv:Aside0 (Kd.Q (Kd.int .i64) 2 w85 w.heap.size (fun k_=>some k_≠(v306:Value).ownBlock∧some k_≠(qy:Value).ownBlock) (.slice yh qz.length yg) qz):=⟨h1_⟩
        have ys:Aside0 (Kd.Q (Kd.int .i64) 2 w85 w.heap.size (fun k_=>some k_≠(v306:Value).ownBlock∧some k_≠(.slice yh qz.length yg:Value).ownBlock) qy qs):=⟨h2_⟩
        have yw:Aside0 (∃ c_,(v306:Value)=.slice (some vm) zk.length c_):=⟨h3_⟩
        have yu:Aside0 (w85.heap[qd]? = some (.cells #[.int .i64 0,.int .i64 0,.slice none 0 0] 27 (0,0))):=⟨h4_⟩
        have yx:Aside0 (w85.heap[qf]? = some (.cells #[.int .i64 0,.int .i64 0,.slice none 0 0] 27 (0,0))):=⟨h5_⟩
        have yy:Aside0 (w85.heap[ya]? = some (.cells #[.int .i64 ye,.int .i64 yd,.slice yh qz.length yg] 27 (0,0))):=⟨h6_⟩
        have yz:Aside0 (w85.heap[qp]? = some (.cells #[.int .i64 qi,.int .i64 qj,qy] 27 (0,0))):=⟨h7_⟩
        have zd:Aside0 (IsS84 w0 w85 g s0_0 t309 t310):=⟨h8_⟩
        have ve:Aside0 (KeepBut w w85 g none):=⟨h9_⟩
        have vx:Aside0 (Below w0.heap.size w0 w85):=⟨h10_⟩
        clear qb
        clear qa
        clear qe
        clear qg
        clear qh
        clear qc
        clear qu
        clear HK
        clear HB
        clear h0_ h1_ h2_ h3_ h4_ h5_ h6_ h7_ h8_ h9_ h10_
        have zv:=yt
        have qb:=yv
        have qa:=ys
        have HA_HO307:=yw
        have qe:=yu
        have qg:=yx
        have qh:=yy
        have qc:=yz
        have qu:=zd
        have HK:=ve
        have HB:=vx
        clear yt yv ys yw yu yx yy yz zd ve vx
        have qx:w85.cell? ⟨qp,0,none⟩=some (.int .i64 qi)∧w85.cell? ⟨qp,1,none⟩=some (.int .i64 qj)∧w85.cell? ⟨qp,2,none⟩=some (qy):=hS_
        obtain⟨co86,eo86⟩:=HA_HO307.out
        clear HA_HO307
        subst eo86
        have p77:0≤(0:Int):=(by omega)
        have q77:(0:Int) < ((qs.length:Int):Int):=of_decide_eq_true (by first|(with_reducible assumption)|assumption)
        have qi77:(0 < qs.length)=True:=eq_true (by omega)
        obtain⟨vf,vk,co77,eo77,gb77,gl77,cl77,HG77⟩:=Kd.Q_form qa.out (by omega)
        (first|cases eo77|(injection eo77 with ea_ en_ ec_;(first|subst ea_|(injection ea_ with ea_;subst ea_));subst ec_;clear en_))
        have GB77:=Ha gb77
        have GG77:=Ha HG77
        clear gb77 gl77 HG77
        obtain⟨hx77_0,hf77_0⟩:=Kd.Q_cell 0 qa.out (0:Int) p77 q77
        (try rw [show((0:Int)).toNat=0 from rfl] at hx77_0)
        (try simp only [Nat.reduceMul,Nat.zero_mul,Nat.zero_add,Nat.reduceAdd,Nat.add_zero] at hx77_0)
        (try rw [show((0:Int)).toNat=0 from rfl] at hf77_0)
        (try simp only [Nat.reduceMul,Nat.zero_mul,Nat.zero_add,Nat.reduceAdd,Nat.add_zero] at hf77_0)
        replace p77:=eq_true p77
        replace q77:=eq_true q77
        have HN0_go77:=Ha (show g≠vf from by have h_:=IsS84.own_neQ qu.out qa.out (by decide);intro e_;exact h_ (by rw [e_];rfl))
        have HP87:=(Kd.Q_putg qa.out (0:Int) (by omega) (by have h_:(0:Int) < ((qs.length:Int):Int):=of_decide_eq_true (by first|(with_reducible assumption)|assumption);first|exact h_|(have e_:=(Kd.Q_reads' qa.out).1;omega)|simpa using h_) (rd zk zs)).1
        rw [← Ny312.out] at HP87
        have HQ87:=Ha HP87
        clear HP87
        refine norm_ (a':=?_) ?_ ?_
        rotate_left
        ·simp only [putAll,Act.put,List.setIfInBounds_toArray,List.set_cons_zero,List.set_cons_succ]
         rfl
        refine pure_ (i:=5) (N:=some 77) (v:=?_) (a':=?_) #[true,true,true,true,true,true,false,false,false] rfl rfl (any_of HT_.out (by kernel_rfl)) (fun _ _ _ h=>h) (Or.inl ⟨by rfl,?_⟩) ?_ ?_
        rotate_left
        ·intro w'
         go_simp
         with_reducible rfl
        rotate_left
        ·simp only [Act.put,List.setIfInBounds_toArray,List.set_cons_zero,List.set_cons_succ,i64_w,i32_w]
         rfl
        refine one_ (i:=6) (N:=some 78) #[true,true,true,true,true,true,true,false,false] rfl rfl (one_of HT_.out (by kernel_rfl)) (by decide) (fun K hK=>?_)
        (have p311:0≤(zs:Int):=of_decide_eq_true (by first|(with_reducible assumption)|assumption);have q311:zs < (zk.length:Int):=of_decide_eq_true (by first|(with_reducible assumption)|assumption);obtain⟨ad311,e311,hx311_0⟩:=Kd.at_int (Kd.R_reads' zv.out).2.2 zs p311 q311;obtain rfl:vm=ad311:=(by injection e311))
        refine value_ (w1:=?_) (v:=?_) (by rfl) rfl ?_ ?_
        rotate_left 2
        ·go_simp
         constructor
         ·rfl
         ·rfl
        clear hx311_0
        refine hK.out _ _ ⟨(Hq qc.out 0).trans rfl,(Hq qc.out 1).trans rfl,(Hq qc.out 2).trans rfl⟩ (fun qx=>?_)
        clear hK K
        refine norm_ (a':=?_) ?_ ?_
        rotate_left
        ·show Act.put _ (some 78) _=_
         simp only [Act.put,List.setIfInBounds_toArray,List.set_cons_zero,List.set_cons_succ,i64_w,i32_w]
         rfl
        refine pure_ (i:=7) (N:=some 79) (v:=?_) (a':=?_) #[true,true,true,true,true,true,true,true,false] rfl rfl (any_of HT_.out (by kernel_rfl)) (fun _ _ _ h=>h) (Or.inl ⟨by rfl,?_⟩) ?_ ?_
        rotate_left
        ·intro w'
         go_simp
         with_reducible rfl
        rotate_left
        ·simp only [Act.put,List.setIfInBounds_toArray,List.set_cons_zero,List.set_cons_succ,i64_w,i32_w]
         rfl
        refine last_ (i:=8) (N:=none) #[true,true,true,true,true,true,true,true,true] rfl rfl (one_of HT_.out (by kernel_rfl)) (by decide) (fun K hK=>?_)
        refine skip_ (w1:=?_) (by rfl) rfl ?_ ?_
        rotate_left
        ·go_simp
         rfl
        refine hK.out _ _ ?_
        clear hK K
        refine done_ (done_of HT_.out (by kernel_rfl)) ?_
        have yt:Aside0 (Kd.Q (Kd.int .i64) 2 (w85.setCell ⟨vf,vk,none⟩ (.int .i64 (rd zk zs))) w.heap.size (fun k_=>some k_≠(.slice (some ⟨vf,vk,none⟩) qs.length co77:Value).ownBlock∧some k_≠(.slice (some vm) zk.length co86:Value).ownBlock) (.slice yh qz.length yg) qz):=⟨by(with_reducible repeat(first|apply Ht|apply Hs|apply Hn));exact HD (HC (p:=⟨vf,vk,none⟩) (HD qb.out (fun k_ hk=>(⟨hk,fun e_=>hk.2 (by rw [e_];rfl)⟩:_∧k_≠vf))) (fun _ hk=>hk.2) (.int .i64 (rd zk zs))) (fun _ hk=>⟨hk.1.2,hk.1.1⟩)⟩
        have yv:Aside0 (Kd.Q (Kd.int .i64) 2 (w85.setCell ⟨vf,vk,none⟩ (.int .i64 (rd zk zs))) w.heap.size (fun k_=>some k_≠(.slice yh qz.length yg:Value).ownBlock∧some k_≠(.slice (some vm) zk.length co86:Value).ownBlock) (.slice (some ⟨vf,vk,none⟩) qs.length co77) y312):=⟨by(with_reducible repeat(first|apply Ht|apply Hs|apply Hn));exact HD HQ87.out (fun _ hk=>⟨hk.2,hk.1⟩)⟩
        have ys:Aside0 (Kd.R (Kd.int .i64) 2 (w85.setCell ⟨vf,vk,none⟩ (.int .i64 (rd zk zs))) w.heap.size (fun k_=>some k_≠(.slice yh qz.length yg:Value).ownBlock∧some k_≠(.slice (some ⟨vf,vk,none⟩) qs.length co77:Value).ownBlock) (.slice (some vm) zk.length co86) zk):=⟨by(with_reducible repeat(first|apply HS|apply HR|apply HH));exact HQ (HP (p:=⟨vf,vk,none⟩) (HQ zv.out (fun k_ hk=>(⟨hk,fun e_=>hk.2 (by rw [e_];rfl)⟩:_∧k_≠vf))) (fun _ hk=>hk.2) (.int .i64 (rd zk zs))) (fun _ hk=>⟨hk.1.1,hk.1.2⟩)⟩
        have yw:Aside0 ((w85.setCell ⟨vf,vk,none⟩ (.int .i64 (rd zk zs))).heap[qd]? = some (.cells #[.int .i64 0,.int .i64 0,.slice none 0 0] 27 (0,0))):=⟨by(with_reducible repeat(first|refine Hk ?_ _|refine Hi ?_|refine Hj ?_ _));refine HE ?_ (by have h_:=Kd.Q_ne qa.out qe.out (by decide);intro e_;exact h_ (by rw [e_];rfl)) _;(with_reducible repeat(first|refine Hk ?_ _|refine Hi ?_|refine Hj ?_ _));exact qe.out⟩
        have yu:Aside0 ((w85.setCell ⟨vf,vk,none⟩ (.int .i64 (rd zk zs))).heap[qf]? = some (.cells #[.int .i64 0,.int .i64 0,.slice none 0 0] 27 (0,0))):=⟨by(with_reducible repeat(first|refine Hk ?_ _|refine Hi ?_|refine Hj ?_ _));refine HE ?_ (by have h_:=Kd.Q_ne qa.out qg.out (by decide);intro e_;exact h_ (by rw [e_];rfl)) _;(with_reducible repeat(first|refine Hk ?_ _|refine Hi ?_|refine Hj ?_ _));exact qg.out⟩
        have yx:Aside0 ((w85.setCell ⟨vf,vk,none⟩ (.int .i64 (rd zk zs))).heap[ya]? = some (.cells #[.int .i64 ye,.int .i64 yd,.slice yh qz.length yg] 27 (0,0))):=⟨by(with_reducible repeat(first|refine Hk ?_ _|refine Hi ?_|refine Hj ?_ _));refine HE ?_ (by have h_:=Kd.Q_ne qa.out qh.out (by decide);intro e_;exact h_ (by rw [e_];rfl)) _;(with_reducible repeat(first|refine Hk ?_ _|refine Hi ?_|refine Hj ?_ _));exact qh.out⟩
        have yy:Aside0 ((w85.setCell ⟨vf,vk,none⟩ (.int .i64 (rd zk zs))).heap[qp]? = some (.cells #[.int .i64 qi,.int .i64 qj,.slice (some ⟨vf,vk,none⟩) qs.length co77] 27 (0,0))):=⟨by(with_reducible repeat(first|refine Hk ?_ _|refine Hi ?_|refine Hj ?_ _));refine HE ?_ (by have h_:=Kd.Q_ne qa.out qc.out (by decide);intro e_;exact h_ (by rw [e_];rfl)) _;(with_reducible repeat(first|refine Hk ?_ _|refine Hi ?_|refine Hj ?_ _));exact qc.out⟩
        have yz:Aside0 (IsS84 w0 (w85.setCell ⟨vf,vk,none⟩ (.int .i64 (rd zk zs))) g s0_0 t309 t310):=⟨by repeat(first|(with_reducible first|exact qu.out|apply Hb|apply Hd|apply Hc|apply Hg|apply Hh|refine He ?_ HN0_go77.out _|refine He ?_ qo.out _|refine He ?_ qq.out _|refine He ?_ qr.out _|refine He ?_ qt.out _)|exact qu.out)⟩
        have zd:Aside0 (KeepBut w (w85.setCell ⟨vf,vk,none⟩ (.int .i64 (rd zk zs))) g none):=⟨by repeat(first|(with_reducible first|exact HK.out|apply Hu|apply Hx|apply Hp|apply Hw|refine Hm ?_ GB77.out _|refine Hm ?_ yf.out _|refine Hm ?_ yi.out _|refine Hm ?_ yn.out _|refine Hm ?_ yp.out _)|exact HK.out)⟩
        have ve:Aside0 (Below w0.heap.size w0 (w85.setCell ⟨vf,vk,none⟩ (.int .i64 (rd zk zs)))):=⟨by repeat(first|(with_reducible first|exact HB.out|apply HF|apply Hv|apply Hy|refine Hl ?_ (Nat.le_trans HL.out GB77.out)|refine Hl ?_ (Hf qu.out)|refine Hl ?_ yo.out|refine Hl ?_ yq.out|refine Hl ?_ za.out|refine Hl ?_ ze.out)|exact HB.out)⟩
        (try clear qb)
        (try clear qa)
        (try clear zv)
        (try clear qe)
        (try clear qg)
        (try clear qh)
        (try clear qc)
        (try clear qu)
        (try clear HK)
        (try clear HB)
        generalize (w85.setCell ⟨vf,vk,none⟩ (.int .i64 (rd zk zs)))=w88 at yt yv ys yw yu yx yy yz zd ve ⊢
        have qb:=yt
        have qa:=yv
        have zv:=ys
        have qe:=yw
        have qg:=yu
        have qh:=yx
        have qc:=yy
        have qu:=yz
        have HK:=zd
        have HB:=ve
        clear yt yv ys yw yu yx yy yz zd ve
        try go_wp2
        have yt:=Ha (Hn qb.out)
        have yv:=Ha (Hn qa.out)
        have ys:=Ha (HH zv.out)
        have yw:=Ha (Hi qe.out)
        have yu:=Ha (Hi qg.out)
        have yx:=Ha (Hi qh.out)
        have yy:=Ha (Hi qc.out)
        have yz:=Ha (Hc qu.out)
        have zd:=Ha (Hp HK.out)
        have ve:=Ha (Hy HB.out)
        clear qb
        clear qa
        clear zv
        clear qe
        clear qg
        clear qh
        clear qc
        clear qu
        clear HK
        clear HB
        have qb:=yt
        have qa:=yv
        have zv:=ys
        have qe:=yw
        have qg:=yu
        have qh:=yx
        have qc:=yy
        have qu:=yz
        have HK:=zd
        have HB:=ve
        clear yt yv ys yw yu yx yy yz zd ve
        refine start_ (n:=4) (S:=fun w'=>w'.cell? ⟨ya,0,none⟩=some (.int .i64 ye)∧w'.cell? ⟨ya,1,none⟩=some (.int .i64 yd)∧w'.cell? ⟨ya,2,none⟩=some (.slice yh qz.length yg)∧w'.cell? ⟨qp,0,none⟩=some (.int .i64 qi)∧w'.cell? ⟨qp,1,none⟩=some (.int .i64 qj)∧w'.cell? ⟨qp,2,none⟩=some (.slice (some ⟨vf,vk,none⟩) qs.length co77)) (ds:=[]) #[false,false,false,false] (by kernel_rfl) rfl rfl ⟨(Hq qh.out 0).trans rfl,(Hq qh.out 1).trans rfl,(Hq qh.out 2).trans rfl,(Hq qc.out 0).trans rfl,(Hq qc.out 1).trans rfl,(Hq qc.out 2).trans rfl⟩ (fun qx=>?_)
        generalize w88.drew=w89 at qb qa zv qe qg qh qc qu HK HB qx ⊢
        refine take_ (i:=0) (N:=some 100) (v:=?_) (a':=?_) #[true,false,false,false] rfl rfl (by kernel_rfl) (fun _ _ _ h=>h) (Or.inl ⟨by rfl,?_⟩) qx ?_ ?_
        rotate_left
        ·rintro w' ⟨s0,s1,s2,s3,s4,s5⟩
         go_simp
         with_reducible rfl
        rotate_left
        ·simp only [Act.put,List.setIfInBounds_toArray,List.set_cons_zero,List.set_cons_succ,i64_w,i32_w]
         rfl
        refine take_ (i:=1) (N:=some 101) (v:=?_) (a':=?_) #[true,true,false,false] rfl rfl (by kernel_rfl) (fun _ _ _ h=>h) (Or.inl ⟨by rfl,?_⟩) qx ?_ ?_
        rotate_left
        ·rintro w' ⟨s0,s1,s2,s3,s4,s5⟩
         go_simp
         with_reducible rfl
        rotate_left
        ·simp only [Act.put,List.setIfInBounds_toArray,List.set_cons_zero,List.set_cons_succ,i64_w,i32_w]
         rfl
        refine one_ (i:=2) (N:=none) #[true,true,true,false] rfl rfl (by kernel_rfl) (by decide) (fun K hK=>?_)
        have hs90:w89.cell? ⟨qd,0,none⟩=some (.int .i64 0):=(Hq qe.out 0).trans rfl
        have hfs90:=Hz qe.out 0
        have hns90_1:=qw.out
        have hns90_2:=qn.out
        have hns90_3:=qk.out
        have hms90_1:=qv.out
        have hms90_2:=yk.out
        have hms90_3:=yc.out
        have hs91:w89.cell? ⟨qd,1,none⟩=some (.int .i64 0):=(Hq qe.out 1).trans rfl
        have hfs91:=Hz qe.out 1
        have hns91_1:=qw.out
        have hns91_2:=qn.out
        have hns91_3:=qk.out
        have hms91_1:=qv.out
        have hms91_2:=yk.out
        have hms91_3:=yc.out
        have hs92:w89.cell? ⟨qd,2,none⟩=some (.slice none 0 0):=(Hq qe.out 2).trans rfl
        have hfs92:=Hz qe.out 2
        have hns92_1:=qw.out
        have hns92_2:=qn.out
        have hns92_3:=qk.out
        have hms92_1:=qv.out
        have hms92_2:=yk.out
        have hms92_3:=yc.out
        refine skip_ (w1:=?_) (by rfl) rfl ?_ ?_
        rotate_left
        ·go_simp
         rfl
        refine hK.out _ _ ⟨((Ho (p:=⟨qd,_,none⟩) qn.out _).trans (((Ho (p:=⟨qd,_,none⟩) qn.out _).trans (((Ho (p:=⟨qd,_,none⟩) qn.out _).trans (qx.1)))))),((Ho (p:=⟨qd,_,none⟩) qn.out _).trans (((Ho (p:=⟨qd,_,none⟩) qn.out _).trans (((Ho (p:=⟨qd,_,none⟩) qn.out _).trans (qx.2.1)))))),((Ho (p:=⟨qd,_,none⟩) qn.out _).trans (((Ho (p:=⟨qd,_,none⟩) qn.out _).trans (((Ho (p:=⟨qd,_,none⟩) qn.out _).trans (qx.2.2.1)))))),((Ho (p:=⟨qd,_,none⟩) qk.out _).trans (((Ho (p:=⟨qd,_,none⟩) qk.out _).trans (((Ho (p:=⟨qd,_,none⟩) qk.out _).trans (qx.2.2.2.1)))))),((Ho (p:=⟨qd,_,none⟩) qk.out _).trans (((Ho (p:=⟨qd,_,none⟩) qk.out _).trans (((Ho (p:=⟨qd,_,none⟩) qk.out _).trans (qx.2.2.2.2.1)))))),((Ho (p:=⟨qd,_,none⟩) qk.out _).trans (((Ho (p:=⟨qd,_,none⟩) qk.out _).trans (((Ho (p:=⟨qd,_,none⟩) qk.out _).trans (qx.2.2.2.2.2))))))⟩ (fun qx=>?_)
        clear hK K
        refine one_ (i:=3) (N:=none) #[true,true,true,true] rfl rfl (by kernel_rfl) (by decide) (fun K hK=>?_)
        have hs93:w89.cell? ⟨qf,0,none⟩=some (.int .i64 0):=(Hq qg.out 0).trans rfl
        have hfs93:=Hz qg.out 0
        have hns93_0:=qv.out
        have hns93_2:=qm.out
        have hns93_3:=ql.out
        have hms93_0:=qw.out
        have hms93_2:=ym.out
        have hms93_3:=yb.out
        have hs94:w89.cell? ⟨qf,1,none⟩=some (.int .i64 0):=(Hq qg.out 1).trans rfl
        have hfs94:=Hz qg.out 1
        have hns94_0:=qv.out
        have hns94_2:=qm.out
        have hns94_3:=ql.out
        have hms94_0:=qw.out
        have hms94_2:=ym.out
        have hms94_3:=yb.out
        have hs95:w89.cell? ⟨qf,2,none⟩=some (.slice none 0 0):=(Hq qg.out 2).trans rfl
        have hfs95:=Hz qg.out 2
        have hns95_0:=qv.out
        have hns95_2:=qm.out
        have hns95_3:=ql.out
        have hms95_0:=qw.out
        have hms95_2:=ym.out
        have hms95_3:=yb.out
        refine skip_ (w1:=?_) (by rfl) rfl ?_ ?_
        rotate_left
        ·go_simp
         rfl
        refine hK.out _ _ ⟨((Ho (p:=⟨qf,_,none⟩) qm.out _).trans (((Ho (p:=⟨qf,_,none⟩) qm.out _).trans (((Ho (p:=⟨qf,_,none⟩) qm.out _).trans (qx.1)))))),((Ho (p:=⟨qf,_,none⟩) qm.out _).trans (((Ho (p:=⟨qf,_,none⟩) qm.out _).trans (((Ho (p:=⟨qf,_,none⟩) qm.out _).trans (qx.2.1)))))),((Ho (p:=⟨qf,_,none⟩) qm.out _).trans (((Ho (p:=⟨qf,_,none⟩) qm.out _).trans (((Ho (p:=⟨qf,_,none⟩) qm.out _).trans (qx.2.2.1)))))),((Ho (p:=⟨qf,_,none⟩) ql.out _).trans (((Ho (p:=⟨qf,_,none⟩) ql.out _).trans (((Ho (p:=⟨qf,_,none⟩) ql.out _).trans (qx.2.2.2.1)))))),((Ho (p:=⟨qf,_,none⟩) ql.out _).trans (((Ho (p:=⟨qf,_,none⟩) ql.out _).trans (((Ho (p:=⟨qf,_,none⟩) ql.out _).trans (qx.2.2.2.2.1)))))),((Ho (p:=⟨qf,_,none⟩) ql.out _).trans (((Ho (p:=⟨qf,_,none⟩) ql.out _).trans (((Ho (p:=⟨qf,_,none⟩) ql.out _).trans (qx.2.2.2.2.2))))))⟩ (fun qx=>?_)
        clear hK K
        refine done_ (by kernel_rfl) ?_
        try go_wp2
        refine bodyPost_ret (results_cc rfl _ _ qd qf 27 27 #[.int .i64 ye,.int .i64 yd,.slice yh qz.length yg] #[.int .i64 qi,.int .i64 qj,.slice (some ⟨vf,vk,none⟩) qs.length co77] (0,0) (0,0) _ _ rfl (by(with_reducible repeat(first|refine Hk ?_ _|refine Hi ?_|refine Hj ?_ _));refine HE ?_ qv.out _;(with_reducible repeat(first|refine Hk ?_ _|refine Hi ?_|refine Hj ?_ _));refine HE ?_ qv.out _;(with_reducible repeat(first|refine Hk ?_ _|refine Hi ?_|refine Hj ?_ _));refine HE ?_ qv.out _;(with_reducible repeat(first|refine Hk ?_ _|refine Hi ?_|refine Hj ?_ _));refine HI (cs:=#[.int .i64 ye,.int .i64 yd,.slice none 0 0]) ?_ 2 _ rfl;(with_reducible repeat(first|refine Hk ?_ _|refine Hi ?_|refine Hj ?_ _));refine HI (cs:=#[.int .i64 ye,.int .i64 0,.slice none 0 0]) ?_ 1 _ rfl;(with_reducible repeat(first|refine Hk ?_ _|refine Hi ?_|refine Hj ?_ _));refine HI (cs:=#[.int .i64 0,.int .i64 0,.slice none 0 0]) ?_ 0 _ rfl;(with_reducible repeat(first|refine Hk ?_ _|refine Hi ?_|refine Hj ?_ _));exact qe.out) Try.underlying27 rfl (by kernel_rfl) rfl (by(with_reducible repeat(first|refine Hk ?_ _|refine Hi ?_|refine Hj ?_ _));refine HI (cs:=#[.int .i64 qi,.int .i64 qj,.slice none 0 0]) ?_ 2 _ rfl;(with_reducible repeat(first|refine Hk ?_ _|refine Hi ?_|refine Hj ?_ _));refine HI (cs:=#[.int .i64 qi,.int .i64 0,.slice none 0 0]) ?_ 1 _ rfl;(with_reducible repeat(first|refine Hk ?_ _|refine Hi ?_|refine Hj ?_ _));refine HI (cs:=#[.int .i64 0,.int .i64 0,.slice none 0 0]) ?_ 0 _ rfl;(with_reducible repeat(first|refine Hk ?_ _|refine Hi ?_|refine Hj ?_ _));refine HE ?_ qw.out _;(with_reducible repeat(first|refine Hk ?_ _|refine Hi ?_|refine Hj ?_ _));refine HE ?_ qw.out _;(with_reducible repeat(first|refine Hk ?_ _|refine Hi ?_|refine Hj ?_ _));refine HE ?_ qw.out _;(with_reducible repeat(first|refine Hk ?_ _|refine Hi ?_|refine Hj ?_ _));exact qg.out) Try.underlying27 rfl (by kernel_rfl)) rfl ?_
        exact⟨_,_,by first|rfl|(simp [errW_none,errW_some] <;> rfl)|(simp [*,errW_none,errW_some] <;> rfl),by(with_reducible repeat(first|apply Ht|apply Hs|apply Hn));exact HD (HC (p:=⟨qf,2,none⟩) (HC (p:=⟨qf,1,none⟩) (HC (p:=⟨qf,0,none⟩) (HC (p:=⟨qd,2,none⟩) (HC (p:=⟨qd,1,none⟩) (HC (p:=⟨qd,0,none⟩) (HJ (HJ qb.out qe.out (by decide)) qg.out (by decide)) (fun _ hk=>hk.1.2) (.int .i64 ye)) (fun _ hk=>hk.1.2) (.int .i64 yd)) (fun _ hk=>hk.1.2) (.slice yh qz.length yg)) (fun _ hk=>hk.2) (.int .i64 qi)) (fun _ hk=>hk.2) (.int .i64 qj)) (fun _ hk=>hk.2) (.slice (some ⟨vf,vk,none⟩) qs.length co77)) (fun _ hk=>hk.1.1.1),by(with_reducible repeat(first|apply Ht|apply Hs|apply Hn));exact HD (HC (p:=⟨qf,2,none⟩) (HC (p:=⟨qf,1,none⟩) (HC (p:=⟨qf,0,none⟩) (HC (p:=⟨qd,2,none⟩) (HC (p:=⟨qd,1,none⟩) (HC (p:=⟨qd,0,none⟩) (HJ (HJ qa.out qe.out (by decide)) qg.out (by decide)) (fun _ hk=>hk.1.2) (.int .i64 ye)) (fun _ hk=>hk.1.2) (.int .i64 yd)) (fun _ hk=>hk.1.2) (.slice yh qz.length yg)) (fun _ hk=>hk.2) (.int .i64 qi)) (fun _ hk=>hk.2) (.int .i64 qj)) (fun _ hk=>hk.2) (.slice (some ⟨vf,vk,none⟩) qs.length co77)) (fun _ hk=>hk.1.1.1),by repeat(first|(with_reducible first|exact qu.out|apply Hb|apply Hd|apply Hc|apply Hg|apply Hh|refine He ?_ qo.out _|refine He ?_ qq.out _|refine He ?_ qr.out _|refine He ?_ qt.out _)|exact qu.out),by repeat(first|(with_reducible first|exact HB.out|apply HF|apply Hv|apply Hy|refine Hl ?_ (Hf qu.out)|refine Hl ?_ yo.out|refine Hl ?_ yq.out|refine Hl ?_ za.out|refine Hl ?_ ze.out)|exact HB.out),by repeat(first|(with_reducible first|exact HK.out|apply Hu|apply Hx|apply Hp|apply Hw|refine Hm ?_ yf.out _|refine Hm ?_ yi.out _|refine Hm ?_ yn.out _|refine Hm ?_ yp.out _)|exact HK.out)⟩
       ·rw [if_neg c76] at H
        exact absurd H (by simp)
      ·rw [if_neg c75] at H
       exact absurd H (by simp)
     ·rw [if_neg c74] at H
      exact absurd H (by simp)
    ·rw [if_neg c72] at H
     have c72b0:(zu == 0)=false:=beq_eq_false_iff_ne.mpr c72
     have c72b1:(zu != 0)=true:=bne_iff_ne.mpr c72
     by_cases c96:zu=1
     ·rw [if_pos c96] at H
      have c96b0:(zu == 1)=true:=beq_iff_eq.mpr c96
      have c96b1:(zu != 1)=false:=bne_eq_false_iff_eq.mpr c96
      clear c96
      obtain⟨zl,hy313⟩:∃ y_:List Int,y_=(([0,16,20,6,(-4)]:List Int)):=⟨_,rfl⟩
      replace H:((spec_l1Below.f s0_0 zx zy 5).bind fun bt316=>(if 0≤bt316.1 then (if bt316.1 < (zl.length:Int) then (some (rd zl bt316.1,yd,qz,qi,qj,qs,bt316.2.1,bt316.2.2)) else (none)) else (none)))=some (r1,r2,r3,r4,r5,r6,r7,r8):=by first|(rw [hy313];with_reducible exact H)|(have vw:=(Option.bind_some _ _).symm.trans H;rw [hy313];with_reducible exact vw)|(have vw:=(Option.bind_some _ _).symm.trans H;with_reducible exact vw)|with_reducible exact H|(rw [hy313];exact H)|exact H
      have Ny313:=Ha hy313
      clear hy313
      replace H:=Option.bind_eq_some_iff.mp H
      obtain⟨⟨zq,t317,t318⟩,A970,H⟩:=H
      replace H:(if 0≤zq then (if zq < (zl.length:Int) then (some (rd zl zq,yd,qz,qi,qj,qs,t317,t318)) else (none)) else (none))=some (r1,r2,r3,r4,r5,r6,r7,r8):=H
      have A97:=Ha A970
      clear A970
      by_cases c98:0≤zq
      ·rw [if_pos c98] at H
       have c98b0:decide (0≤zq)=true:=decide_eq_true c98
       clear c98
       by_cases c99:zq < (zl.length:Int)
       ·rw [if_pos c99] at H
        have c99b0:decide (zq < (zl.length:Int))=true:=decide_eq_true c99
        clear c99
        simp only [Option.some.injEq,Prod.mk.injEq] at H
        obtain⟨rfl,rfl,rfl,rfl,rfl,rfl,rfl,rfl⟩:=H
        try go_wp2_with (first|((with_reducible refine HN (f:=64) rfl ?_);refine goesL_ (some 67) rfl rfl Try.func64 (by kernel_rfl) rfl #[.pointer (some ⟨g,0,none⟩),.int .i64 20] rfl (by(try simp only [List.map_toArray,List.map_cons,List.map_nil]);first|done|rfl|(simp only [List.length_drop,List.length_take];rfl)) ?_;(with_reducible refine(spec_l1Once.calls g s0_0 zj zi 20 true vb vd w0 _ ?side1 ?side2 A69.out).mono ?_);(case side1=>repeat(first|(with_reducible first|exact qu.out|apply Hb|apply Hd|apply Hc|apply Hg|apply Hh|refine He ?_ qo.out _|refine He ?_ qq.out _|refine He ?_ qr.out _|refine He ?_ qt.out _)|exact qu.out));(case side2=>repeat(first|(with_reducible first|exact HB.out|apply HF|apply Hv|apply Hy|refine Hl ?_ (Hf qu.out)|refine Hl ?_ yo.out|refine Hl ?_ yq.out|refine Hl ?_ za.out|refine Hl ?_ ze.out)|exact HB.out));rintro e w100 ⟨rfl,hi,hb,hk⟩;refine⟨_,rfl,?_⟩;have yt:=Ha (HD (HM (IsS84.apartQ (show IsS84 w0 _ g s0_0 zj zi from by repeat(first|(with_reducible first|exact qu.out|apply Hb|apply Hd|apply Hc|apply Hg|apply Hh|refine He ?_ qo.out _|refine He ?_ qq.out _|refine He ?_ qr.out _|refine He ?_ qt.out _)|exact qu.out)) (by(with_reducible repeat(first|apply Ht|apply Hs|apply Hn));exact qb.out) (by decide)) hk (fun _ h=>h.2)) (fun _ h=>h.1));have yv:=Ha (HD (HM (IsS84.apartQ (show IsS84 w0 _ g s0_0 zj zi from by repeat(first|(with_reducible first|exact qu.out|apply Hb|apply Hd|apply Hc|apply Hg|apply Hh|refine He ?_ qo.out _|refine He ?_ qq.out _|refine He ?_ qr.out _|refine He ?_ qt.out _)|exact qu.out)) (by(with_reducible repeat(first|apply Ht|apply Hs|apply Hn));exact qa.out) (by decide)) hk (fun _ h=>h.2)) (fun _ h=>h.1));have ys:=Ha (Hr hk (g':=qd) (o:=.cells #[.int .i64 0,.int .i64 0,.slice none 0 0] 27 (0,0)) (by(with_reducible repeat(first|refine Hk ?_ _|refine Hi ?_|refine Hj ?_ _));exact qe.out) zf.out (by simp));have yw:=Ha (Hr hk (g':=qf) (o:=.cells #[.int .i64 0,.int .i64 0,.slice none 0 0] 27 (0,0)) (by(with_reducible repeat(first|refine Hk ?_ _|refine Hi ?_|refine Hj ?_ _));exact qg.out) zg.out (by simp));have yu:=Ha (Hr hk (g':=ya) (o:=.cells #[.int .i64 ye,.int .i64 yd,.slice yh qz.length yg] 27 (0,0)) (by(with_reducible repeat(first|refine Hk ?_ _|refine Hi ?_|refine Hj ?_ _));exact qh.out) zh.out (by simp));have yx:=Ha (Hr hk (g':=qp) (o:=.cells #[.int .i64 qi,.int .i64 qj,qy] 27 (0,0)) (by(with_reducible repeat(first|refine Hk ?_ _|refine Hi ?_|refine Hj ?_ _));exact qc.out) zc.out (by simp));have yy:=Ha (HG (by repeat(first|(with_reducible first|exact HK.out|apply Hu|apply Hx|apply Hp|apply Hw|refine Hm ?_ yf.out _|refine Hm ?_ yi.out _|refine Hm ?_ yn.out _|refine Hm ?_ yp.out _)|exact HK.out)) hk (.inl rfl));have yz:=Ha (hb);have zd:=Ha (hi);clear qb;clear qa;clear qe;clear qg;clear qh;clear qc;clear HK;clear HB;clear qu;have qb:=yt;have qa:=yv;have qe:=ys;have qg:=yw;have qh:=yu;have qc:=yx;have HK:=yy;have HB:=yz;have qu:=zd;clear yt yv ys yw yu yx yy yz zd;(try clear hb);(try clear hb2);(try clear hk);(try clear hi))|((with_reducible refine HN (f:=65) rfl ?_);refine goesL_ (some 69) rfl rfl Try.func65 (by kernel_rfl) rfl #[.pointer (some ⟨g,0,none⟩),.int .i64 4] rfl (by(try simp only [List.map_toArray,List.map_cons,List.map_nil]);first|done|rfl|(simp only [List.length_drop,List.length_take];rfl)) ?_;(with_reducible refine(spec_l1Below.calls g s0_0 vb vd 4 zu zx zy w0 _ ?side1 ?side2 A71.out).mono ?_);(case side1=>repeat(first|(with_reducible first|exact qu.out|apply Hb|apply Hd|apply Hc|apply Hg|apply Hh|refine He ?_ qo.out _|refine He ?_ qq.out _|refine He ?_ qr.out _|refine He ?_ qt.out _)|exact qu.out));(case side2=>repeat(first|(with_reducible first|exact HB.out|apply HF|apply Hv|apply Hy|refine Hl ?_ (Hf qu.out)|refine Hl ?_ yo.out|refine Hl ?_ yq.out|refine Hl ?_ za.out|refine Hl ?_ ze.out)|exact HB.out));rintro e w101 ⟨rfl,hi,hb,hk⟩;refine⟨_,rfl,?_⟩;have yt:=Ha (HD (HM (IsS84.apartQ (show IsS84 w0 _ g s0_0 vb vd from by repeat(first|(with_reducible first|exact qu.out|apply Hb|apply Hd|apply Hc|apply Hg|apply Hh|refine He ?_ qo.out _|refine He ?_ qq.out _|refine He ?_ qr.out _|refine He ?_ qt.out _)|exact qu.out)) (by(with_reducible repeat(first|apply Ht|apply Hs|apply Hn));exact qb.out) (by decide)) hk (fun _ h=>h.2)) (fun _ h=>h.1));have yv:=Ha (HD (HM (IsS84.apartQ (show IsS84 w0 _ g s0_0 vb vd from by repeat(first|(with_reducible first|exact qu.out|apply Hb|apply Hd|apply Hc|apply Hg|apply Hh|refine He ?_ qo.out _|refine He ?_ qq.out _|refine He ?_ qr.out _|refine He ?_ qt.out _)|exact qu.out)) (by(with_reducible repeat(first|apply Ht|apply Hs|apply Hn));exact qa.out) (by decide)) hk (fun _ h=>h.2)) (fun _ h=>h.1));have ys:=Ha (Hr hk (g':=qd) (o:=.cells #[.int .i64 0,.int .i64 0,.slice none 0 0] 27 (0,0)) (by(with_reducible repeat(first|refine Hk ?_ _|refine Hi ?_|refine Hj ?_ _));exact qe.out) zf.out (by simp));have yw:=Ha (Hr hk (g':=qf) (o:=.cells #[.int .i64 0,.int .i64 0,.slice none 0 0] 27 (0,0)) (by(with_reducible repeat(first|refine Hk ?_ _|refine Hi ?_|refine Hj ?_ _));exact qg.out) zg.out (by simp));have yu:=Ha (Hr hk (g':=ya) (o:=.cells #[.int .i64 ye,.int .i64 yd,.slice yh qz.length yg] 27 (0,0)) (by(with_reducible repeat(first|refine Hk ?_ _|refine Hi ?_|refine Hj ?_ _));exact qh.out) zh.out (by simp));have yx:=Ha (Hr hk (g':=qp) (o:=.cells #[.int .i64 qi,.int .i64 qj,qy] 27 (0,0)) (by(with_reducible repeat(first|refine Hk ?_ _|refine Hi ?_|refine Hj ?_ _));exact qc.out) zc.out (by simp));have yy:=Ha (HG (by repeat(first|(with_reducible first|exact HK.out|apply Hu|apply Hx|apply Hp|apply Hw|refine Hm ?_ yf.out _|refine Hm ?_ yi.out _|refine Hm ?_ yn.out _|refine Hm ?_ yp.out _)|exact HK.out)) hk (.inl rfl));have yz:=Ha (hb);have zd:=Ha (hi);clear qb;clear qa;clear qe;clear qg;clear qh;clear qc;clear HK;clear HB;clear qu;have qb:=yt;have qa:=yv;have qe:=ys;have qg:=yw;have qh:=yu;have qc:=yx;have HK:=yy;have HB:=yz;have qu:=zd;clear yt yv ys yw yu yx yy yz zd;(try clear hb);(try clear hb2);(try clear hk);(try clear hi))|((with_reducible refine gate_dst (N:=82) rfl ?_);refine Kd.R_lit (Kd.int .i64) _ 2 ?hg (N:=82) ?hd (xs:=([0,16,20,6,(-4)]:List Int)) (inner:=[.int .i64 0,.int .i64 16,.int .i64 20,.int .i64 6,.int .i64 (-4)]) (ok:=fun _=>True) (okp:=fun _=>True) ?hr ?hp (fun _ hk=>hk) trivial (Below.refl _ _) (Nat.le_refl _) (by simp) ?_;(case hd=>rfl);(case hg=>rfl);(case hr=>first|(go_simp;done)|(go_simp;rfl));(case hp=>exact(Reps.one (show Kd.M (Kd.int .i64) _ _ _ 0 [.int .i64 0] from rfl) (Reps.one (show Kd.M (Kd.int .i64) _ _ _ 16 [.int .i64 16] from rfl) (Reps.one (show Kd.M (Kd.int .i64) _ _ _ 20 [.int .i64 20] from rfl) (Reps.one (show Kd.M (Kd.int .i64) _ _ _ 6 [.int .i64 6] from rfl) (Reps.one (show Kd.M (Kd.int .i64) _ _ _ (-4) [.int .i64 (-4)] from rfl) (Reps.none _ _)))))));intro v314 w102 ho103 hb hg_ hnew_;clear hg_ hnew_;(first|rw [← Ny313.out] at ho103|(simp only [Int.reduceToNat] at ho103;rw [← Ny313.out] at ho103));have yt:=Ha (Kd.Q_elder' (by(with_reducible repeat(first|apply Ht|apply Hs|apply Hn));exact qb.out) (Kd.R_base ho103) hb);have yv:=Ha (Kd.Q_elder' (by(with_reducible repeat(first|apply Ht|apply Hs|apply Hn));exact qa.out) (Kd.R_base ho103) hb);have ys:=Ha (Kd.R_lower (Kd.R_new' (Kd.R_new' ho103 (Kd.Q_lt (by(with_reducible repeat(first|apply Ht|apply Hs|apply Hn));exact qb.out))) (Kd.Q_lt (by(with_reducible repeat(first|apply Ht|apply Hs|apply Hn));exact qa.out))) (keep_size (w:=w) (g:=g) (row:=none) (by repeat(first|(with_reducible first|exact HK.out|apply Hu|apply Hx|apply Hp|apply Hw|refine Hm ?_ yf.out _|refine Hm ?_ yi.out _|refine Hm ?_ yn.out _|refine Hm ?_ yp.out _)|exact HK.out))));have yw:=Ha (HO (g:=qd) (o:=.cells #[.int .i64 0,.int .i64 0,.slice none 0 0] 27 (0,0)) (by(with_reducible repeat(first|refine Hk ?_ _|refine Hi ?_|refine Hj ?_ _));exact qe.out) hb);have yu:=Ha (HO (g:=qf) (o:=.cells #[.int .i64 0,.int .i64 0,.slice none 0 0] 27 (0,0)) (by(with_reducible repeat(first|refine Hk ?_ _|refine Hi ?_|refine Hj ?_ _));exact qg.out) hb);have yx:=Ha (HO (g:=ya) (o:=.cells #[.int .i64 ye,.int .i64 yd,.slice yh qz.length yg] 27 (0,0)) (by(with_reducible repeat(first|refine Hk ?_ _|refine Hi ?_|refine Hj ?_ _));exact qh.out) hb);have yy:=Ha (HO (g:=qp) (o:=.cells #[.int .i64 qi,.int .i64 qj,qy] 27 (0,0)) (by(with_reducible repeat(first|refine Hk ?_ _|refine Hi ?_|refine Hj ?_ _));exact qc.out) hb);have yz:=Ha (IsS84.below (by repeat(first|(with_reducible first|exact qu.out|apply Hb|apply Hd|apply Hc|apply Hg|apply Hh|refine He ?_ qo.out _|refine He ?_ qq.out _|refine He ?_ qr.out _|refine He ?_ qt.out _)|exact qu.out)) hb);have zd:=Ha (HG (by repeat(first|(with_reducible first|exact HK.out|apply Hu|apply Hx|apply Hp|apply Hw|refine Hm ?_ yf.out _|refine Hm ?_ yi.out _|refine Hm ?_ yn.out _|refine Hm ?_ yp.out _)|exact HK.out)) (KeepBut.of_below hb g none) (.inl rfl));have ve:=Ha (below_step (by repeat(first|(with_reducible first|exact HB.out|apply HF|apply Hv|apply Hy|refine Hl ?_ (Hf qu.out)|refine Hl ?_ yo.out|refine Hl ?_ yq.out|refine Hl ?_ za.out|refine Hl ?_ ze.out)|exact HB.out)) hb);clear qb;clear qa;clear qe;clear qg;clear qh;clear qc;clear qu;clear HK;clear HB;have qb:=yt;have qa:=yv;have vl:=ys;have qe:=yw;have qg:=yu;have qh:=yx;have qc:=yy;have qu:=yz;have HK:=zd;have HB:=ve;clear yt yv ys yw yu yx yy yz zd ve;clear hb ho103)|((with_reducible refine HN (f:=65) rfl ?_);refine goesL_ (some 84) rfl rfl Try.func65 (by kernel_rfl) rfl #[.pointer (some ⟨g,0,none⟩),.int .i64 5] rfl (by(try simp only [List.map_toArray,List.map_cons,List.map_nil]);first|done|rfl|(simp only [List.length_drop,List.length_take];rfl)) ?_;(with_reducible refine(spec_l1Below.calls g s0_0 zx zy 5 zq t317 t318 w0 _ ?side1 ?side2 A97.out).mono ?_);(case side1=>repeat(first|(with_reducible first|exact qu.out|apply Hb|apply Hd|apply Hc|apply Hg|apply Hh|refine He ?_ qo.out _|refine He ?_ qq.out _|refine He ?_ qr.out _|refine He ?_ qt.out _)|exact qu.out));(case side2=>repeat(first|(with_reducible first|exact HB.out|apply HF|apply Hv|apply Hy|refine Hl ?_ (Hf qu.out)|refine Hl ?_ yo.out|refine Hl ?_ yq.out|refine Hl ?_ za.out|refine Hl ?_ ze.out)|exact HB.out));rintro e w104 ⟨rfl,hi,hb,hk⟩;refine⟨_,rfl,?_⟩;have yt:=Ha (HD (HM (IsS84.apartQ (show IsS84 w0 _ g s0_0 zx zy from by repeat(first|(with_reducible first|exact qu.out|apply Hb|apply Hd|apply Hc|apply Hg|apply Hh|refine He ?_ qo.out _|refine He ?_ qq.out _|refine He ?_ qr.out _|refine He ?_ qt.out _)|exact qu.out)) (by(with_reducible repeat(first|apply Ht|apply Hs|apply Hn));exact qb.out) (by decide)) hk (fun _ h=>h.2)) (fun _ h=>h.1));have yv:=Ha (HD (HM (IsS84.apartQ (show IsS84 w0 _ g s0_0 zx zy from by repeat(first|(with_reducible first|exact qu.out|apply Hb|apply Hd|apply Hc|apply Hg|apply Hh|refine He ?_ qo.out _|refine He ?_ qq.out _|refine He ?_ qr.out _|refine He ?_ qt.out _)|exact qu.out)) (by(with_reducible repeat(first|apply Ht|apply Hs|apply Hn));exact qa.out) (by decide)) hk (fun _ h=>h.2)) (fun _ h=>h.1));have ys:=Ha (Hr hk (g':=qd) (o:=.cells #[.int .i64 0,.int .i64 0,.slice none 0 0] 27 (0,0)) (by(with_reducible repeat(first|refine Hk ?_ _|refine Hi ?_|refine Hj ?_ _));exact qe.out) zf.out (by simp));have yw:=Ha (Hr hk (g':=qf) (o:=.cells #[.int .i64 0,.int .i64 0,.slice none 0 0] 27 (0,0)) (by(with_reducible repeat(first|refine Hk ?_ _|refine Hi ?_|refine Hj ?_ _));exact qg.out) zg.out (by simp));have yu:=Ha (Hr hk (g':=ya) (o:=.cells #[.int .i64 ye,.int .i64 yd,.slice yh qz.length yg] 27 (0,0)) (by(with_reducible repeat(first|refine Hk ?_ _|refine Hi ?_|refine Hj ?_ _));exact qh.out) zh.out (by simp));have yx:=Ha (Hr hk (g':=qp) (o:=.cells #[.int .i64 qi,.int .i64 qj,qy] 27 (0,0)) (by(with_reducible repeat(first|refine Hk ?_ _|refine Hi ?_|refine Hj ?_ _));exact qc.out) zc.out (by simp));have yy:=Ha (HQ (Kd.R_keep (IsS84.apart (show IsS84 w0 _ g s0_0 zx zy from by repeat(first|(with_reducible first|exact qu.out|apply Hb|apply Hd|apply Hc|apply Hg|apply Hh|refine He ?_ qo.out _|refine He ?_ qq.out _|refine He ?_ qr.out _|refine He ?_ qt.out _)|exact qu.out)) (by(with_reducible repeat(first|apply HS|apply HR|apply HH));exact vl.out) (by decide)) hk (fun _ h=>h.2)) (fun _ h=>h.1));have yz:=Ha (HG (by repeat(first|(with_reducible first|exact HK.out|apply Hu|apply Hx|apply Hp|apply Hw|refine Hm ?_ yf.out _|refine Hm ?_ yi.out _|refine Hm ?_ yn.out _|refine Hm ?_ yp.out _)|exact HK.out)) hk (.inl rfl));have zd:=Ha (hb);have ve:=Ha (hi);clear qb;clear qa;clear qe;clear qg;clear qh;clear qc;clear vl;clear HK;clear HB;clear qu;have qb:=yt;have qa:=yv;have qe:=ys;have qg:=yw;have qh:=yu;have qc:=yx;have vl:=yy;have HK:=yz;have HB:=zd;have qu:=ve;clear yt yv ys yw yu yx yy yz zd ve;(try clear hb);(try clear hb2);(try clear hk);(try clear hi);obtain⟨Ao105,co105,eo105⟩:=Kd.R_slice vl.out;subst eo105;have p319:0≤(zq:Int):=of_decide_eq_true (by first|(with_reducible assumption)|assumption);have q319:zq < (zl.length:Int):=of_decide_eq_true (by first|(with_reducible assumption)|assumption);obtain⟨ad319,e319,hx319_0⟩:=Kd.at_int (Kd.R_reads' vl.out).2.2 zq p319 q319;cases e319;replace p319:=eq_true p319;replace q319:=eq_true q319;have hnb106:=qn.out;have hnc106:=yk.out;have hnb107:=qm.out;have hnc107:=ym.out;have hnb108:=zb.out;have hnc108:=zr.out;have hnb109:=zh.out;have hnc109:=qr.out;have hcz110_0:w104.cell? ⟨ya,0,none⟩=some (.int .i64 ye):=(Hq qh.out 0).trans rfl;have hcz110_1:w104.cell? ⟨ya,1,none⟩=some (.int .i64 yd):=(Hq qh.out 1).trans rfl;have hcz110_2:w104.cell? ⟨ya,2,none⟩=some (.slice yh qz.length yg):=(Hq qh.out 2).trans rfl;have hfz110_0:=Hz qh.out 0;have hfz110_1:=Hz qh.out 1;have hfz110_2:=Hz qh.out 2))
        have yt:Aside0 (Kd.Q (Kd.int .i64) 2 (w104.setCell ⟨ya,0,none⟩ (.int .i64 (rd zl zq))) w.heap.size (fun k_=>some k_≠(qy:Value).ownBlock∧some k_≠(.slice (some ad319) zl.length co105:Value).ownBlock) (.slice yh qz.length yg) qz):=⟨by(with_reducible repeat(first|apply Ht|apply Hs|apply Hn));exact HD (HC (p:=⟨ya,0,none⟩) (HJ qb.out qh.out (by decide)) (fun _ hk=>hk.2) (.int .i64 (rd zl zq))) (fun _ hk=>⟨hk.1.1,hk.1.2⟩)⟩
        have yv:Aside0 (Kd.Q (Kd.int .i64) 2 (w104.setCell ⟨ya,0,none⟩ (.int .i64 (rd zl zq))) w.heap.size (fun k_=>some k_≠(.slice yh qz.length yg:Value).ownBlock∧some k_≠(.slice (some ad319) zl.length co105:Value).ownBlock) qy qs):=⟨by(with_reducible repeat(first|apply Ht|apply Hs|apply Hn));exact HD (HC (p:=⟨ya,0,none⟩) (HJ qa.out qh.out (by decide)) (fun _ hk=>hk.2) (.int .i64 (rd zl zq))) (fun _ hk=>⟨hk.1.1,hk.1.2⟩)⟩
        have ys:Aside0 (Kd.R (Kd.int .i64) 2 (w104.setCell ⟨ya,0,none⟩ (.int .i64 (rd zl zq))) w.heap.size (fun k_=>some k_≠(.slice yh qz.length yg:Value).ownBlock∧some k_≠(qy:Value).ownBlock) (.slice (some ad319) zl.length co105) zl):=⟨by(with_reducible repeat(first|apply HS|apply HR|apply HH));exact HQ (HP (p:=⟨ya,0,none⟩) (Kd.R_types vl.out qh.out (by decide)) (fun _ hk=>hk.2) (.int .i64 (rd zl zq))) (fun _ hk=>⟨hk.1.1.2,hk.1.2⟩)⟩
        have yw:Aside0 ((w104.setCell ⟨ya,0,none⟩ (.int .i64 (rd zl zq))).heap[qd]? = some (.cells #[.int .i64 0,.int .i64 0,.slice none 0 0] 27 (0,0))):=⟨by(with_reducible repeat(first|refine Hk ?_ _|refine Hi ?_|refine Hj ?_ _));refine HE ?_ yk.out _;(with_reducible repeat(first|refine Hk ?_ _|refine Hi ?_|refine Hj ?_ _));exact qe.out⟩
        have yu:Aside0 ((w104.setCell ⟨ya,0,none⟩ (.int .i64 (rd zl zq))).heap[qf]? = some (.cells #[.int .i64 0,.int .i64 0,.slice none 0 0] 27 (0,0))):=⟨by(with_reducible repeat(first|refine Hk ?_ _|refine Hi ?_|refine Hj ?_ _));refine HE ?_ ym.out _;(with_reducible repeat(first|refine Hk ?_ _|refine Hi ?_|refine Hj ?_ _));exact qg.out⟩
        have yx:Aside0 ((w104.setCell ⟨ya,0,none⟩ (.int .i64 (rd zl zq))).heap[ya]? = some (.cells #[.int .i64 (rd zl zq),.int .i64 yd,.slice yh qz.length yg] 27 (0,0))):=⟨by(with_reducible repeat(first|refine Hk ?_ _|refine Hi ?_|refine Hj ?_ _));refine HI (cs:=#[.int .i64 ye,.int .i64 yd,.slice yh qz.length yg]) ?_ 0 _ rfl;(with_reducible repeat(first|refine Hk ?_ _|refine Hi ?_|refine Hj ?_ _));exact qh.out⟩
        have yy:Aside0 ((w104.setCell ⟨ya,0,none⟩ (.int .i64 (rd zl zq))).heap[qp]? = some (.cells #[.int .i64 qi,.int .i64 qj,qy] 27 (0,0))):=⟨by(with_reducible repeat(first|refine Hk ?_ _|refine Hi ?_|refine Hj ?_ _));refine HE ?_ zr.out _;(with_reducible repeat(first|refine Hk ?_ _|refine Hi ?_|refine Hj ?_ _));exact qc.out⟩
        have yz:Aside0 (IsS84 w0 (w104.setCell ⟨ya,0,none⟩ (.int .i64 (rd zl zq))) g s0_0 t317 t318):=⟨by repeat(first|(with_reducible first|exact qu.out|apply Hb|apply Hd|apply Hc|apply Hg|apply Hh|refine He ?_ qo.out _|refine He ?_ qq.out _|refine He ?_ qr.out _|refine He ?_ qt.out _)|exact qu.out)⟩
        have zd:Aside0 (KeepBut w (w104.setCell ⟨ya,0,none⟩ (.int .i64 (rd zl zq))) g none):=⟨by repeat(first|(with_reducible first|exact HK.out|apply Hu|apply Hx|apply Hp|apply Hw|refine Hm ?_ yf.out _|refine Hm ?_ yi.out _|refine Hm ?_ yn.out _|refine Hm ?_ yp.out _)|exact HK.out)⟩
        have ve:Aside0 (Below w0.heap.size w0 (w104.setCell ⟨ya,0,none⟩ (.int .i64 (rd zl zq)))):=⟨by repeat(first|(with_reducible first|exact HB.out|apply HF|apply Hv|apply Hy|refine Hl ?_ (Hf qu.out)|refine Hl ?_ yo.out|refine Hl ?_ yq.out|refine Hl ?_ za.out|refine Hl ?_ ze.out)|exact HB.out)⟩
        (try clear qb)
        (try clear qa)
        (try clear vl)
        (try clear qe)
        (try clear qg)
        (try clear qh)
        (try clear qc)
        (try clear qu)
        (try clear HK)
        (try clear HB)
        generalize (w104.setCell ⟨ya,0,none⟩ (.int .i64 (rd zl zq)))=w111 at yt yv ys yw yu yx yy yz zd ve ⊢
        have qb:=yt
        have qa:=yv
        have vl:=ys
        have qe:=yw
        have qg:=yu
        have qh:=yx
        have qc:=yy
        have qu:=yz
        have HK:=zd
        have HB:=ve
        clear yt yv ys yw yu yx yy yz zd ve
        have yt:=Ha (Hn qb.out)
        have yv:=Ha (Hn qa.out)
        have ys:=Ha (HH vl.out)
        have yw:=Ha (Hi qe.out)
        have yu:=Ha (Hi qg.out)
        have yx:=Ha (Hi qh.out)
        have yy:=Ha (Hi qc.out)
        have yz:=Ha (Hc qu.out)
        have zd:=Ha (Hp HK.out)
        have ve:=Ha (Hy HB.out)
        clear qb
        clear qa
        clear vl
        clear qe
        clear qg
        clear qh
        clear qc
        clear qu
        clear HK
        clear HB
        have qb:=yt
        have qa:=yv
        have vl:=ys
        have qe:=yw
        have qg:=yu
        have qh:=yx
        have qc:=yy
        have qu:=yz
        have HK:=zd
        have HB:=ve
        clear yt yv ys yw yu yx yy yz zd ve
        obtain⟨Ao118,co118,eo118,_⟩:=Kd.Q_slice qa.out
        (first|subst eo118|(injection eo118 with f1_ f2_ f3_;have f4_:=f1_.symm;have f5_:=f3_.symm;clear f1_ f2_ f3_;subst f4_;subst f5_))
        refine start_ (n:=4) (S:=fun w'=>w'.cell? ⟨ya,0,none⟩=some (.int .i64 (rd zl zq))∧w'.cell? ⟨ya,1,none⟩=some (.int .i64 yd)∧w'.cell? ⟨ya,2,none⟩=some (.slice yh qz.length yg)∧w'.cell? ⟨qp,0,none⟩=some (.int .i64 qi)∧w'.cell? ⟨qp,1,none⟩=some (.int .i64 qj)∧w'.cell? ⟨qp,2,none⟩=some (.slice Ao118 qs.length co118)) (ds:=[]) #[false,false,false,false] (by kernel_rfl) rfl rfl ⟨(Hq qh.out 0).trans rfl,(Hq qh.out 1).trans rfl,(Hq qh.out 2).trans rfl,(Hq qc.out 0).trans rfl,(Hq qc.out 1).trans rfl,(Hq qc.out 2).trans rfl⟩ (fun qx=>?_)
        generalize w111.drew=w112 at qb qa vl qe qg qh qc qu HK HB qx ⊢
        refine take_ (i:=0) (N:=some 100) (v:=?_) (a':=?_) #[true,false,false,false] rfl rfl (by kernel_rfl) (fun _ _ _ h=>h) (Or.inl ⟨by rfl,?_⟩) qx ?_ ?_
        rotate_left
        ·rintro w' ⟨s0,s1,s2,s3,s4,s5⟩
         go_simp
         with_reducible rfl
        rotate_left
        ·simp only [Act.put,List.setIfInBounds_toArray,List.set_cons_zero,List.set_cons_succ,i64_w,i32_w]
         rfl
        refine take_ (i:=1) (N:=some 101) (v:=?_) (a':=?_) #[true,true,false,false] rfl rfl (by kernel_rfl) (fun _ _ _ h=>h) (Or.inl ⟨by rfl,?_⟩) qx ?_ ?_
        rotate_left
        ·rintro w' ⟨s0,s1,s2,s3,s4,s5⟩
         go_simp
         with_reducible rfl
        rotate_left
        ·simp only [Act.put,List.setIfInBounds_toArray,List.set_cons_zero,List.set_cons_succ,i64_w,i32_w]
         rfl
        refine one_ (i:=2) (N:=none) #[true,true,true,false] rfl rfl (by kernel_rfl) (by decide) (fun K hK=>?_)
        have hs113:w112.cell? ⟨qd,0,none⟩=some (.int .i64 0):=(Hq qe.out 0).trans rfl
        have hfs113:=Hz qe.out 0
        have hns113_1:=qw.out
        have hns113_2:=qn.out
        have hns113_3:=qk.out
        have hms113_1:=qv.out
        have hms113_2:=yk.out
        have hms113_3:=yc.out
        have hs114:w112.cell? ⟨qd,1,none⟩=some (.int .i64 0):=(Hq qe.out 1).trans rfl
        have hfs114:=Hz qe.out 1
        have hns114_1:=qw.out
        have hns114_2:=qn.out
        have hns114_3:=qk.out
        have hms114_1:=qv.out
        have hms114_2:=yk.out
        have hms114_3:=yc.out
        have hs115:w112.cell? ⟨qd,2,none⟩=some (.slice none 0 0):=(Hq qe.out 2).trans rfl
        have hfs115:=Hz qe.out 2
        have hns115_1:=qw.out
        have hns115_2:=qn.out
        have hns115_3:=qk.out
        have hms115_1:=qv.out
        have hms115_2:=yk.out
        have hms115_3:=yc.out
        refine skip_ (w1:=?_) (by rfl) rfl ?_ ?_
        rotate_left
        ·go_simp
         rfl
        refine hK.out _ _ ⟨((Ho (p:=⟨qd,_,none⟩) qn.out _).trans (((Ho (p:=⟨qd,_,none⟩) qn.out _).trans (((Ho (p:=⟨qd,_,none⟩) qn.out _).trans (qx.1)))))),((Ho (p:=⟨qd,_,none⟩) qn.out _).trans (((Ho (p:=⟨qd,_,none⟩) qn.out _).trans (((Ho (p:=⟨qd,_,none⟩) qn.out _).trans (qx.2.1)))))),((Ho (p:=⟨qd,_,none⟩) qn.out _).trans (((Ho (p:=⟨qd,_,none⟩) qn.out _).trans (((Ho (p:=⟨qd,_,none⟩) qn.out _).trans (qx.2.2.1)))))),((Ho (p:=⟨qd,_,none⟩) qk.out _).trans (((Ho (p:=⟨qd,_,none⟩) qk.out _).trans (((Ho (p:=⟨qd,_,none⟩) qk.out _).trans (qx.2.2.2.1)))))),((Ho (p:=⟨qd,_,none⟩) qk.out _).trans (((Ho (p:=⟨qd,_,none⟩) qk.out _).trans (((Ho (p:=⟨qd,_,none⟩) qk.out _).trans (qx.2.2.2.2.1)))))),((Ho (p:=⟨qd,_,none⟩) qk.out _).trans (((Ho (p:=⟨qd,_,none⟩) qk.out _).trans (((Ho (p:=⟨qd,_,none⟩) qk.out _).trans (qx.2.2.2.2.2))))))⟩ (fun qx=>?_)
        clear hK K
        refine one_ (i:=3) (N:=none) #[true,true,true,true] rfl rfl (by kernel_rfl) (by decide) (fun K hK=>?_)
        have hs116:w112.cell? ⟨qf,0,none⟩=some (.int .i64 0):=(Hq qg.out 0).trans rfl
        have hfs116:=Hz qg.out 0
        have hns116_0:=qv.out
        have hns116_2:=qm.out
        have hns116_3:=ql.out
        have hms116_0:=qw.out
        have hms116_2:=ym.out
        have hms116_3:=yb.out
        have hs117:w112.cell? ⟨qf,1,none⟩=some (.int .i64 0):=(Hq qg.out 1).trans rfl
        have hfs117:=Hz qg.out 1
        have hns117_0:=qv.out
        have hns117_2:=qm.out
        have hns117_3:=ql.out
        have hms117_0:=qw.out
        have hms117_2:=ym.out
        have hms117_3:=yb.out
        have hs119:w112.cell? ⟨qf,2,none⟩=some (.slice none 0 0):=(Hq qg.out 2).trans rfl
        have hfs119:=Hz qg.out 2
        have hns119_0:=qv.out
        have hns119_2:=qm.out
        have hns119_3:=ql.out
        have hms119_0:=qw.out
        have hms119_2:=ym.out
        have hms119_3:=yb.out
        refine skip_ (w1:=?_) (by rfl) rfl ?_ ?_
        rotate_left
        ·go_simp
         rfl
        refine hK.out _ _ ⟨((Ho (p:=⟨qf,_,none⟩) qm.out _).trans (((Ho (p:=⟨qf,_,none⟩) qm.out _).trans (((Ho (p:=⟨qf,_,none⟩) qm.out _).trans (qx.1)))))),((Ho (p:=⟨qf,_,none⟩) qm.out _).trans (((Ho (p:=⟨qf,_,none⟩) qm.out _).trans (((Ho (p:=⟨qf,_,none⟩) qm.out _).trans (qx.2.1)))))),((Ho (p:=⟨qf,_,none⟩) qm.out _).trans (((Ho (p:=⟨qf,_,none⟩) qm.out _).trans (((Ho (p:=⟨qf,_,none⟩) qm.out _).trans (qx.2.2.1)))))),((Ho (p:=⟨qf,_,none⟩) ql.out _).trans (((Ho (p:=⟨qf,_,none⟩) ql.out _).trans (((Ho (p:=⟨qf,_,none⟩) ql.out _).trans (qx.2.2.2.1)))))),((Ho (p:=⟨qf,_,none⟩) ql.out _).trans (((Ho (p:=⟨qf,_,none⟩) ql.out _).trans (((Ho (p:=⟨qf,_,none⟩) ql.out _).trans (qx.2.2.2.2.1)))))),((Ho (p:=⟨qf,_,none⟩) ql.out _).trans (((Ho (p:=⟨qf,_,none⟩) ql.out _).trans (((Ho (p:=⟨qf,_,none⟩) ql.out _).trans (qx.2.2.2.2.2))))))⟩ (fun qx=>?_)
        clear hK K
        refine done_ (by kernel_rfl) ?_
        try go_wp2
        refine bodyPost_ret (results_cc rfl _ _ qd qf 27 27 #[.int .i64 (rd zl zq),.int .i64 yd,.slice yh qz.length yg] #[.int .i64 qi,.int .i64 qj,.slice Ao118 qs.length co118] (0,0) (0,0) _ _ rfl (by(with_reducible repeat(first|refine Hk ?_ _|refine Hi ?_|refine Hj ?_ _));refine HE ?_ qv.out _;(with_reducible repeat(first|refine Hk ?_ _|refine Hi ?_|refine Hj ?_ _));refine HE ?_ qv.out _;(with_reducible repeat(first|refine Hk ?_ _|refine Hi ?_|refine Hj ?_ _));refine HE ?_ qv.out _;(with_reducible repeat(first|refine Hk ?_ _|refine Hi ?_|refine Hj ?_ _));refine HI (cs:=#[.int .i64 (rd zl zq),.int .i64 yd,.slice none 0 0]) ?_ 2 _ rfl;(with_reducible repeat(first|refine Hk ?_ _|refine Hi ?_|refine Hj ?_ _));refine HI (cs:=#[.int .i64 (rd zl zq),.int .i64 0,.slice none 0 0]) ?_ 1 _ rfl;(with_reducible repeat(first|refine Hk ?_ _|refine Hi ?_|refine Hj ?_ _));refine HI (cs:=#[.int .i64 0,.int .i64 0,.slice none 0 0]) ?_ 0 _ rfl;(with_reducible repeat(first|refine Hk ?_ _|refine Hi ?_|refine Hj ?_ _));exact qe.out) Try.underlying27 rfl (by kernel_rfl) rfl (by(with_reducible repeat(first|refine Hk ?_ _|refine Hi ?_|refine Hj ?_ _));refine HI (cs:=#[.int .i64 qi,.int .i64 qj,.slice none 0 0]) ?_ 2 _ rfl;(with_reducible repeat(first|refine Hk ?_ _|refine Hi ?_|refine Hj ?_ _));refine HI (cs:=#[.int .i64 qi,.int .i64 0,.slice none 0 0]) ?_ 1 _ rfl;(with_reducible repeat(first|refine Hk ?_ _|refine Hi ?_|refine Hj ?_ _));refine HI (cs:=#[.int .i64 0,.int .i64 0,.slice none 0 0]) ?_ 0 _ rfl;(with_reducible repeat(first|refine Hk ?_ _|refine Hi ?_|refine Hj ?_ _));refine HE ?_ qw.out _;(with_reducible repeat(first|refine Hk ?_ _|refine Hi ?_|refine Hj ?_ _));refine HE ?_ qw.out _;(with_reducible repeat(first|refine Hk ?_ _|refine Hi ?_|refine Hj ?_ _));refine HE ?_ qw.out _;(with_reducible repeat(first|refine Hk ?_ _|refine Hi ?_|refine Hj ?_ _));exact qg.out) Try.underlying27 rfl (by kernel_rfl)) rfl ?_
        exact⟨_,_,by first|rfl|(simp [errW_none,errW_some] <;> rfl)|(simp [*,errW_none,errW_some] <;> rfl),by(with_reducible repeat(first|apply Ht|apply Hs|apply Hn));exact HD (HC (p:=⟨qf,2,none⟩) (HC (p:=⟨qf,1,none⟩) (HC (p:=⟨qf,0,none⟩) (HC (p:=⟨qd,2,none⟩) (HC (p:=⟨qd,1,none⟩) (HC (p:=⟨qd,0,none⟩) (HJ (HJ qb.out qe.out (by decide)) qg.out (by decide)) (fun _ hk=>hk.1.2) (.int .i64 (rd zl zq))) (fun _ hk=>hk.1.2) (.int .i64 yd)) (fun _ hk=>hk.1.2) (.slice yh qz.length yg)) (fun _ hk=>hk.2) (.int .i64 qi)) (fun _ hk=>hk.2) (.int .i64 qj)) (fun _ hk=>hk.2) (.slice Ao118 qs.length co118)) (fun _ hk=>hk.1.1.1),by(with_reducible repeat(first|apply Ht|apply Hs|apply Hn));exact HD (HC (p:=⟨qf,2,none⟩) (HC (p:=⟨qf,1,none⟩) (HC (p:=⟨qf,0,none⟩) (HC (p:=⟨qd,2,none⟩) (HC (p:=⟨qd,1,none⟩) (HC (p:=⟨qd,0,none⟩) (HJ (HJ qa.out qe.out (by decide)) qg.out (by decide)) (fun _ hk=>hk.1.2) (.int .i64 (rd zl zq))) (fun _ hk=>hk.1.2) (.int .i64 yd)) (fun _ hk=>hk.1.2) (.slice yh qz.length yg)) (fun _ hk=>hk.2) (.int .i64 qi)) (fun _ hk=>hk.2) (.int .i64 qj)) (fun _ hk=>hk.2) (.slice Ao118 qs.length co118)) (fun _ hk=>hk.1.1.1),by repeat(first|(with_reducible first|exact qu.out|apply Hb|apply Hd|apply Hc|apply Hg|apply Hh|refine He ?_ qo.out _|refine He ?_ qq.out _|refine He ?_ qr.out _|refine He ?_ qt.out _)|exact qu.out),by repeat(first|(with_reducible first|exact HB.out|apply HF|apply Hv|apply Hy|refine Hl ?_ (Hf qu.out)|refine Hl ?_ yo.out|refine Hl ?_ yq.out|refine Hl ?_ za.out|refine Hl ?_ ze.out)|exact HB.out),by repeat(first|(with_reducible first|exact HK.out|apply Hu|apply Hx|apply Hp|apply Hw|refine Hm ?_ yf.out _|refine Hm ?_ yi.out _|refine Hm ?_ yn.out _|refine Hm ?_ yp.out _)|exact HK.out)⟩
       ·rw [if_neg c99] at H
        exact absurd H (by simp)
      ·rw [if_neg c98] at H
       exact absurd H (by simp)
     ·rw [if_neg c96] at H
      have c96b0:(zu == 1)=false:=beq_eq_false_iff_ne.mpr c96
      have c96b1:(zu != 1)=true:=bne_iff_ne.mpr c96
      by_cases c120:zu=2
      ·rw [if_pos c120] at H
       have c120b0:(zu == 2)=true:=beq_iff_eq.mpr c120
       have c120b1:(zu != 2)=false:=bne_eq_false_iff_eq.mpr c120
       clear c120
       by_cases c121:1≤(qs.length:Int)
       ·rw [if_pos c121] at H
        have c121b0:=eq_true c121
        have c121b1:decide (1≤(qs.length:Int))=true:=decide_eq_true c121
        clear c121
        obtain⟨zz,hy320⟩:∃ y_:List Int,y_=(qs.drop (1:Int).toNat):=⟨_,rfl⟩
        replace H:(some (ye,yd,qz,qi,qj,zz,zx,zy))=some (r1,r2,r3,r4,r5,r6,r7,r8):=by first|(rw [hy320];with_reducible exact H)|(have vw:=(Option.bind_some _ _).symm.trans H;rw [hy320];with_reducible exact vw)|(have vw:=(Option.bind_some _ _).symm.trans H;with_reducible exact vw)|with_reducible exact H|(rw [hy320];exact H)|exact H
        have Ny320:=Ha hy320
        clear hy320
        simp only [Option.some.injEq,Prod.mk.injEq] at H
        obtain⟨rfl,rfl,rfl,rfl,rfl,rfl,rfl,rfl⟩:=H
        try go_wp2_with (first|((with_reducible refine HN (f:=64) rfl ?_);refine goesL_ (some 67) rfl rfl Try.func64 (by kernel_rfl) rfl #[.pointer (some ⟨g,0,none⟩),.int .i64 20] rfl (by(try simp only [List.map_toArray,List.map_cons,List.map_nil]);first|done|rfl|(simp only [List.length_drop,List.length_take];rfl)) ?_;(with_reducible refine(spec_l1Once.calls g s0_0 zj zi 20 true vb vd w0 _ ?side1 ?side2 A69.out).mono ?_);(case side1=>repeat(first|(with_reducible first|exact qu.out|apply Hb|apply Hd|apply Hc|apply Hg|apply Hh|refine He ?_ qo.out _|refine He ?_ qq.out _|refine He ?_ qr.out _|refine He ?_ qt.out _)|exact qu.out));(case side2=>repeat(first|(with_reducible first|exact HB.out|apply HF|apply Hv|apply Hy|refine Hl ?_ (Hf qu.out)|refine Hl ?_ yo.out|refine Hl ?_ yq.out|refine Hl ?_ za.out|refine Hl ?_ ze.out)|exact HB.out));rintro e w122 ⟨rfl,hi,hb,hk⟩;refine⟨_,rfl,?_⟩;have yt:=Ha (HD (HM (IsS84.apartQ (show IsS84 w0 _ g s0_0 zj zi from by repeat(first|(with_reducible first|exact qu.out|apply Hb|apply Hd|apply Hc|apply Hg|apply Hh|refine He ?_ qo.out _|refine He ?_ qq.out _|refine He ?_ qr.out _|refine He ?_ qt.out _)|exact qu.out)) (by(with_reducible repeat(first|apply Ht|apply Hs|apply Hn));exact qb.out) (by decide)) hk (fun _ h=>h.2)) (fun _ h=>h.1));have yv:=Ha (HD (HM (IsS84.apartQ (show IsS84 w0 _ g s0_0 zj zi from by repeat(first|(with_reducible first|exact qu.out|apply Hb|apply Hd|apply Hc|apply Hg|apply Hh|refine He ?_ qo.out _|refine He ?_ qq.out _|refine He ?_ qr.out _|refine He ?_ qt.out _)|exact qu.out)) (by(with_reducible repeat(first|apply Ht|apply Hs|apply Hn));exact qa.out) (by decide)) hk (fun _ h=>h.2)) (fun _ h=>h.1));have ys:=Ha (Hr hk (g':=qd) (o:=.cells #[.int .i64 0,.int .i64 0,.slice none 0 0] 27 (0,0)) (by(with_reducible repeat(first|refine Hk ?_ _|refine Hi ?_|refine Hj ?_ _));exact qe.out) zf.out (by simp));have yw:=Ha (Hr hk (g':=qf) (o:=.cells #[.int .i64 0,.int .i64 0,.slice none 0 0] 27 (0,0)) (by(with_reducible repeat(first|refine Hk ?_ _|refine Hi ?_|refine Hj ?_ _));exact qg.out) zg.out (by simp));have yu:=Ha (Hr hk (g':=ya) (o:=.cells #[.int .i64 ye,.int .i64 yd,.slice yh qz.length yg] 27 (0,0)) (by(with_reducible repeat(first|refine Hk ?_ _|refine Hi ?_|refine Hj ?_ _));exact qh.out) zh.out (by simp));have yx:=Ha (Hr hk (g':=qp) (o:=.cells #[.int .i64 qi,.int .i64 qj,qy] 27 (0,0)) (by(with_reducible repeat(first|refine Hk ?_ _|refine Hi ?_|refine Hj ?_ _));exact qc.out) zc.out (by simp));have yy:=Ha (HG (by repeat(first|(with_reducible first|exact HK.out|apply Hu|apply Hx|apply Hp|apply Hw|refine Hm ?_ yf.out _|refine Hm ?_ yi.out _|refine Hm ?_ yn.out _|refine Hm ?_ yp.out _)|exact HK.out)) hk (.inl rfl));have yz:=Ha (hb);have zd:=Ha (hi);clear qb;clear qa;clear qe;clear qg;clear qh;clear qc;clear HK;clear HB;clear qu;have qb:=yt;have qa:=yv;have qe:=ys;have qg:=yw;have qh:=yu;have qc:=yx;have HK:=yy;have HB:=yz;have qu:=zd;clear yt yv ys yw yu yx yy yz zd;(try clear hb);(try clear hb2);(try clear hk);(try clear hi))|((with_reducible refine HN (f:=65) rfl ?_);refine goesL_ (some 69) rfl rfl Try.func65 (by kernel_rfl) rfl #[.pointer (some ⟨g,0,none⟩),.int .i64 4] rfl (by(try simp only [List.map_toArray,List.map_cons,List.map_nil]);first|done|rfl|(simp only [List.length_drop,List.length_take];rfl)) ?_;(with_reducible refine(spec_l1Below.calls g s0_0 vb vd 4 zu zx zy w0 _ ?side1 ?side2 A71.out).mono ?_);(case side1=>repeat(first|(with_reducible first|exact qu.out|apply Hb|apply Hd|apply Hc|apply Hg|apply Hh|refine He ?_ qo.out _|refine He ?_ qq.out _|refine He ?_ qr.out _|refine He ?_ qt.out _)|exact qu.out));(case side2=>repeat(first|(with_reducible first|exact HB.out|apply HF|apply Hv|apply Hy|refine Hl ?_ (Hf qu.out)|refine Hl ?_ yo.out|refine Hl ?_ yq.out|refine Hl ?_ za.out|refine Hl ?_ ze.out)|exact HB.out));rintro e w123 ⟨rfl,hi,hb,hk⟩;refine⟨_,rfl,?_⟩;have yt:=Ha (HD (HM (IsS84.apartQ (show IsS84 w0 _ g s0_0 vb vd from by repeat(first|(with_reducible first|exact qu.out|apply Hb|apply Hd|apply Hc|apply Hg|apply Hh|refine He ?_ qo.out _|refine He ?_ qq.out _|refine He ?_ qr.out _|refine He ?_ qt.out _)|exact qu.out)) (by(with_reducible repeat(first|apply Ht|apply Hs|apply Hn));exact qb.out) (by decide)) hk (fun _ h=>h.2)) (fun _ h=>h.1));have yv:=Ha (HD (HM (IsS84.apartQ (show IsS84 w0 _ g s0_0 vb vd from by repeat(first|(with_reducible first|exact qu.out|apply Hb|apply Hd|apply Hc|apply Hg|apply Hh|refine He ?_ qo.out _|refine He ?_ qq.out _|refine He ?_ qr.out _|refine He ?_ qt.out _)|exact qu.out)) (by(with_reducible repeat(first|apply Ht|apply Hs|apply Hn));exact qa.out) (by decide)) hk (fun _ h=>h.2)) (fun _ h=>h.1));have ys:=Ha (Hr hk (g':=qd) (o:=.cells #[.int .i64 0,.int .i64 0,.slice none 0 0] 27 (0,0)) (by(with_reducible repeat(first|refine Hk ?_ _|refine Hi ?_|refine Hj ?_ _));exact qe.out) zf.out (by simp));have yw:=Ha (Hr hk (g':=qf) (o:=.cells #[.int .i64 0,.int .i64 0,.slice none 0 0] 27 (0,0)) (by(with_reducible repeat(first|refine Hk ?_ _|refine Hi ?_|refine Hj ?_ _));exact qg.out) zg.out (by simp));have yu:=Ha (Hr hk (g':=ya) (o:=.cells #[.int .i64 ye,.int .i64 yd,.slice yh qz.length yg] 27 (0,0)) (by(with_reducible repeat(first|refine Hk ?_ _|refine Hi ?_|refine Hj ?_ _));exact qh.out) zh.out (by simp));have yx:=Ha (Hr hk (g':=qp) (o:=.cells #[.int .i64 qi,.int .i64 qj,qy] 27 (0,0)) (by(with_reducible repeat(first|refine Hk ?_ _|refine Hi ?_|refine Hj ?_ _));exact qc.out) zc.out (by simp));have yy:=Ha (HG (by repeat(first|(with_reducible first|exact HK.out|apply Hu|apply Hx|apply Hp|apply Hw|refine Hm ?_ yf.out _|refine Hm ?_ yi.out _|refine Hm ?_ yn.out _|refine Hm ?_ yp.out _)|exact HK.out)) hk (.inl rfl));have yz:=Ha (hb);have zd:=Ha (hi);clear qb;clear qa;clear qe;clear qg;clear qh;clear qc;clear HK;clear HB;clear qu;have qb:=yt;have qa:=yv;have qe:=ys;have qg:=yw;have qh:=yu;have qc:=yx;have HK:=yy;have HB:=yz;have qu:=zd;clear yt yv ys yw yu yx yy yz zd;(try clear hb);(try clear hb2);(try clear hk);(try clear hi);have hnb124:=qk.out;have hnc124:=yc.out;have hnb125:=ql.out;have hnc125:=yb.out;have hnb126:=zr.out;have hnc126:=zb.out;have hnb127:=zc.out;have hnc127:=qt.out;have hcz128_0:w123.cell? ⟨qp,0,none⟩=some (.int .i64 qi):=(Hq qc.out 0).trans rfl;have hcz128_1:w123.cell? ⟨qp,1,none⟩=some (.int .i64 qj):=(Hq qc.out 1).trans rfl;have hcz128_2:w123.cell? ⟨qp,2,none⟩=some (qy):=(Hq qc.out 2).trans rfl;have hfz128_0:=Hz qc.out 0;have hfz128_1:=Hz qc.out 1;have hfz128_2:=Hz qc.out 2;obtain⟨xa,co129,eo129,_⟩:=Kd.Q_slice qa.out;subst eo129;have q130:(1:Int)≤((qs.length:Int):Int):=of_decide_eq_true (by first|(with_reducible assumption)|assumption);obtain⟨i0130,hi0130,_,hsz130,_⟩:=info_parts info2;have hcut130:=cut_from (P:=Try.prog) 22 2 .i64 Try.underlying22 hi0130 1 hsz130 xa qs.length co129 1 (by omega) q130;have hr130:=Kd.Q_drop (k:=(1:Int).toNat) qa.out (by omega);obtain⟨vh,hA130⟩:∃ A1,A1=(if co129=(1:Int).toNat then xa else (xa:Option Addr).map (·.add ((1:Int).toNat*1))):=⟨_,rfl⟩;obtain⟨vi,hc130⟩:∃ c1,c1=co129 - (1:Int).toNat:=⟨_,rfl⟩;have hy130:zz.length=qs.length - (1:Int).toNat:=(by rw [Ny320.out,List.length_drop]);rw [← Ny320.out] at hr130;rw [← hy130,← hA130,← hc130] at hcut130;replace hr130:Kd.Q (Kd.int .i64) 2 w123 w.heap.size (fun k_=>some k_≠(.slice yh qz.length yg:Value).ownBlock) (.slice vh zz.length vi) zz:=(by rw [hA130,hc130,hy130];exact hr130);have HE130:Aside0 ((Value.slice vh zz.length vi).ownBlock=(.slice xa qs.length co129:Value).ownBlock):=⟨by rw [hA130];split <;> (cases (xa:Option Addr) <;> rfl)⟩;clear hy130 hi0130 hsz130 qa hA130 hc130;have vr:=Ha hr130;clear hr130;replace q130:=eq_true q130;have n_:=Ha (HD (ok':=fun k_=>some k_≠(.slice vh zz.length vi:Value).ownBlock) qb.out (fun k_ hk=>(by rw [HE130.out];exact hk)));clear qb;have qb:=n_;clear n_))
        have yt:Aside0 (Kd.Q (Kd.int .i64) 2 (w123.setCell ⟨qp,2,none⟩ (.slice vh zz.length vi)) w.heap.size (fun k_=>some k_≠(.slice vh zz.length vi:Value).ownBlock) (.slice yh qz.length yg) qz):=⟨by(with_reducible repeat(first|apply Ht|apply Hs|apply Hn));exact HD (HC (p:=⟨qp,2,none⟩) (HJ qb.out qc.out (by decide)) (fun _ hk=>hk.2) (.slice vh zz.length vi)) (fun _ hk=>hk.1)⟩
        have yv:Aside0 (Kd.Q (Kd.int .i64) 2 (w123.setCell ⟨qp,2,none⟩ (.slice vh zz.length vi)) w.heap.size (fun k_=>some k_≠(.slice yh qz.length yg:Value).ownBlock) (.slice vh zz.length vi) zz):=⟨by(with_reducible repeat(first|apply Ht|apply Hs|apply Hn));exact HD (HC (p:=⟨qp,2,none⟩) (HJ vr.out qc.out (by decide)) (fun _ hk=>hk.2) (.slice vh zz.length vi)) (fun _ hk=>hk.1)⟩
        have ys:Aside0 ((w123.setCell ⟨qp,2,none⟩ (.slice vh zz.length vi)).heap[qd]? = some (.cells #[.int .i64 0,.int .i64 0,.slice none 0 0] 27 (0,0))):=⟨by(with_reducible repeat(first|refine Hk ?_ _|refine Hi ?_|refine Hj ?_ _));refine HE ?_ yc.out _;(with_reducible repeat(first|refine Hk ?_ _|refine Hi ?_|refine Hj ?_ _));exact qe.out⟩
        have yw:Aside0 ((w123.setCell ⟨qp,2,none⟩ (.slice vh zz.length vi)).heap[qf]? = some (.cells #[.int .i64 0,.int .i64 0,.slice none 0 0] 27 (0,0))):=⟨by(with_reducible repeat(first|refine Hk ?_ _|refine Hi ?_|refine Hj ?_ _));refine HE ?_ yb.out _;(with_reducible repeat(first|refine Hk ?_ _|refine Hi ?_|refine Hj ?_ _));exact qg.out⟩
        have yu:Aside0 ((w123.setCell ⟨qp,2,none⟩ (.slice vh zz.length vi)).heap[ya]? = some (.cells #[.int .i64 ye,.int .i64 yd,.slice yh qz.length yg] 27 (0,0))):=⟨by(with_reducible repeat(first|refine Hk ?_ _|refine Hi ?_|refine Hj ?_ _));refine HE ?_ zb.out _;(with_reducible repeat(first|refine Hk ?_ _|refine Hi ?_|refine Hj ?_ _));exact qh.out⟩
        have yx:Aside0 ((w123.setCell ⟨qp,2,none⟩ (.slice vh zz.length vi)).heap[qp]? = some (.cells #[.int .i64 qi,.int .i64 qj,.slice vh zz.length vi] 27 (0,0))):=⟨by(with_reducible repeat(first|refine Hk ?_ _|refine Hi ?_|refine Hj ?_ _));refine HI (cs:=#[.int .i64 qi,.int .i64 qj,.slice xa qs.length co129]) ?_ 2 _ rfl;(with_reducible repeat(first|refine Hk ?_ _|refine Hi ?_|refine Hj ?_ _));exact qc.out⟩
        have yy:Aside0 (IsS84 w0 (w123.setCell ⟨qp,2,none⟩ (.slice vh zz.length vi)) g s0_0 zx zy):=⟨by repeat(first|(with_reducible first|exact qu.out|apply Hb|apply Hd|apply Hc|apply Hg|apply Hh|refine He ?_ qo.out _|refine He ?_ qq.out _|refine He ?_ qr.out _|refine He ?_ qt.out _)|exact qu.out)⟩
        have yz:Aside0 (KeepBut w (w123.setCell ⟨qp,2,none⟩ (.slice vh zz.length vi)) g none):=⟨by repeat(first|(with_reducible first|exact HK.out|apply Hu|apply Hx|apply Hp|apply Hw|refine Hm ?_ yf.out _|refine Hm ?_ yi.out _|refine Hm ?_ yn.out _|refine Hm ?_ yp.out _)|exact HK.out)⟩
        have zd:Aside0 (Below w0.heap.size w0 (w123.setCell ⟨qp,2,none⟩ (.slice vh zz.length vi))):=⟨by repeat(first|(with_reducible first|exact HB.out|apply HF|apply Hv|apply Hy|refine Hl ?_ (Hf qu.out)|refine Hl ?_ yo.out|refine Hl ?_ yq.out|refine Hl ?_ za.out|refine Hl ?_ ze.out)|exact HB.out)⟩
        (try clear qb)
        (try clear vr)
        (try clear qe)
        (try clear qg)
        (try clear qh)
        (try clear qc)
        (try clear qu)
        (try clear HK)
        (try clear HB)
        generalize (w123.setCell ⟨qp,2,none⟩ (.slice vh zz.length vi))=w131 at yt yv ys yw yu yx yy yz zd ⊢
        have qb:=yt
        have vr:=yv
        have qe:=ys
        have qg:=yw
        have qh:=yu
        have qc:=yx
        have qu:=yy
        have HK:=yz
        have HB:=zd
        clear yt yv ys yw yu yx yy yz zd
        have yt:=Ha (Hn qb.out)
        have yv:=Ha (Hn vr.out)
        have ys:=Ha (Hi qe.out)
        have yw:=Ha (Hi qg.out)
        have yu:=Ha (Hi qh.out)
        have yx:=Ha (Hi qc.out)
        have yy:=Ha (Hc qu.out)
        have yz:=Ha (Hp HK.out)
        have zd:=Ha (Hy HB.out)
        clear qb
        clear vr
        clear qe
        clear qg
        clear qh
        clear qc
        clear qu
        clear HK
        clear HB
        have qb:=yt
        have vr:=yv
        have qe:=ys
        have qg:=yw
        have qh:=yu
        have qc:=yx
        have qu:=yy
        have HK:=yz
        have HB:=zd
        clear yt yv ys yw yu yx yy yz zd
        refine start_ (n:=4) (S:=fun w'=>w'.cell? ⟨ya,0,none⟩=some (.int .i64 ye)∧w'.cell? ⟨ya,1,none⟩=some (.int .i64 yd)∧w'.cell? ⟨ya,2,none⟩=some (.slice yh qz.length yg)∧w'.cell? ⟨qp,0,none⟩=some (.int .i64 qi)∧w'.cell? ⟨qp,1,none⟩=some (.int .i64 qj)∧w'.cell? ⟨qp,2,none⟩=some (.slice vh zz.length vi)) (ds:=[]) #[false,false,false,false] (by kernel_rfl) rfl rfl ⟨(Hq qh.out 0).trans rfl,(Hq qh.out 1).trans rfl,(Hq qh.out 2).trans rfl,(Hq qc.out 0).trans rfl,(Hq qc.out 1).trans rfl,(Hq qc.out 2).trans rfl⟩ (fun qx=>?_)
        generalize w131.drew=w132 at qb vr qe qg qh qc qu HK HB qx ⊢
        refine take_ (i:=0) (N:=some 100) (v:=?_) (a':=?_) #[true,false,false,false] rfl rfl (by kernel_rfl) (fun _ _ _ h=>h) (Or.inl ⟨by rfl,?_⟩) qx ?_ ?_
        rotate_left
        ·rintro w' ⟨s0,s1,s2,s3,s4,s5⟩
         go_simp
         with_reducible rfl
        rotate_left
        ·simp only [Act.put,List.setIfInBounds_toArray,List.set_cons_zero,List.set_cons_succ,i64_w,i32_w]
         rfl
        refine take_ (i:=1) (N:=some 101) (v:=?_) (a':=?_) #[true,true,false,false] rfl rfl (by kernel_rfl) (fun _ _ _ h=>h) (Or.inl ⟨by rfl,?_⟩) qx ?_ ?_
        rotate_left
        ·rintro w' ⟨s0,s1,s2,s3,s4,s5⟩
         go_simp
         with_reducible rfl
        rotate_left
        ·simp only [Act.put,List.setIfInBounds_toArray,List.set_cons_zero,List.set_cons_succ,i64_w,i32_w]
         rfl
        refine one_ (i:=2) (N:=none) #[true,true,true,false] rfl rfl (by kernel_rfl) (by decide) (fun K hK=>?_)
        have hs133:w132.cell? ⟨qd,0,none⟩=some (.int .i64 0):=(Hq qe.out 0).trans rfl
        have hfs133:=Hz qe.out 0
        have hns133_1:=qw.out
        have hns133_2:=qn.out
        have hns133_3:=qk.out
        have hms133_1:=qv.out
        have hms133_2:=yk.out
        have hms133_3:=yc.out
        have hs134:w132.cell? ⟨qd,1,none⟩=some (.int .i64 0):=(Hq qe.out 1).trans rfl
        have hfs134:=Hz qe.out 1
        have hns134_1:=qw.out
        have hns134_2:=qn.out
        have hns134_3:=qk.out
        have hms134_1:=qv.out
        have hms134_2:=yk.out
        have hms134_3:=yc.out
        have hs135:w132.cell? ⟨qd,2,none⟩=some (.slice none 0 0):=(Hq qe.out 2).trans rfl
        have hfs135:=Hz qe.out 2
        have hns135_1:=qw.out
        have hns135_2:=qn.out
        have hns135_3:=qk.out
        have hms135_1:=qv.out
        have hms135_2:=yk.out
        have hms135_3:=yc.out
        refine skip_ (w1:=?_) (by rfl) rfl ?_ ?_
        rotate_left
        ·go_simp
         rfl
        refine hK.out _ _ ⟨((Ho (p:=⟨qd,_,none⟩) qn.out _).trans (((Ho (p:=⟨qd,_,none⟩) qn.out _).trans (((Ho (p:=⟨qd,_,none⟩) qn.out _).trans (qx.1)))))),((Ho (p:=⟨qd,_,none⟩) qn.out _).trans (((Ho (p:=⟨qd,_,none⟩) qn.out _).trans (((Ho (p:=⟨qd,_,none⟩) qn.out _).trans (qx.2.1)))))),((Ho (p:=⟨qd,_,none⟩) qn.out _).trans (((Ho (p:=⟨qd,_,none⟩) qn.out _).trans (((Ho (p:=⟨qd,_,none⟩) qn.out _).trans (qx.2.2.1)))))),((Ho (p:=⟨qd,_,none⟩) qk.out _).trans (((Ho (p:=⟨qd,_,none⟩) qk.out _).trans (((Ho (p:=⟨qd,_,none⟩) qk.out _).trans (qx.2.2.2.1)))))),((Ho (p:=⟨qd,_,none⟩) qk.out _).trans (((Ho (p:=⟨qd,_,none⟩) qk.out _).trans (((Ho (p:=⟨qd,_,none⟩) qk.out _).trans (qx.2.2.2.2.1)))))),((Ho (p:=⟨qd,_,none⟩) qk.out _).trans (((Ho (p:=⟨qd,_,none⟩) qk.out _).trans (((Ho (p:=⟨qd,_,none⟩) qk.out _).trans (qx.2.2.2.2.2))))))⟩ (fun qx=>?_)
        clear hK K
        refine one_ (i:=3) (N:=none) #[true,true,true,true] rfl rfl (by kernel_rfl) (by decide) (fun K hK=>?_)
        have hs136:w132.cell? ⟨qf,0,none⟩=some (.int .i64 0):=(Hq qg.out 0).trans rfl
        have hfs136:=Hz qg.out 0
        have hns136_0:=qv.out
        have hns136_2:=qm.out
        have hns136_3:=ql.out
        have hms136_0:=qw.out
        have hms136_2:=ym.out
        have hms136_3:=yb.out
        have hs137:w132.cell? ⟨qf,1,none⟩=some (.int .i64 0):=(Hq qg.out 1).trans rfl
        have hfs137:=Hz qg.out 1
        have hns137_0:=qv.out
        have hns137_2:=qm.out
        have hns137_3:=ql.out
        have hms137_0:=qw.out
        have hms137_2:=ym.out
        have hms137_3:=yb.out
        have hs138:w132.cell? ⟨qf,2,none⟩=some (.slice none 0 0):=(Hq qg.out 2).trans rfl
        have hfs138:=Hz qg.out 2
        have hns138_0:=qv.out
        have hns138_2:=qm.out
        have hns138_3:=ql.out
        have hms138_0:=qw.out
        have hms138_2:=ym.out
        have hms138_3:=yb.out
        refine skip_ (w1:=?_) (by rfl) rfl ?_ ?_
        rotate_left
        ·go_simp
         rfl
        refine hK.out _ _ ⟨((Ho (p:=⟨qf,_,none⟩) qm.out _).trans (((Ho (p:=⟨qf,_,none⟩) qm.out _).trans (((Ho (p:=⟨qf,_,none⟩) qm.out _).trans (qx.1)))))),((Ho (p:=⟨qf,_,none⟩) qm.out _).trans (((Ho (p:=⟨qf,_,none⟩) qm.out _).trans (((Ho (p:=⟨qf,_,none⟩) qm.out _).trans (qx.2.1)))))),((Ho (p:=⟨qf,_,none⟩) qm.out _).trans (((Ho (p:=⟨qf,_,none⟩) qm.out _).trans (((Ho (p:=⟨qf,_,none⟩) qm.out _).trans (qx.2.2.1)))))),((Ho (p:=⟨qf,_,none⟩) ql.out _).trans (((Ho (p:=⟨qf,_,none⟩) ql.out _).trans (((Ho (p:=⟨qf,_,none⟩) ql.out _).trans (qx.2.2.2.1)))))),((Ho (p:=⟨qf,_,none⟩) ql.out _).trans (((Ho (p:=⟨qf,_,none⟩) ql.out _).trans (((Ho (p:=⟨qf,_,none⟩) ql.out _).trans (qx.2.2.2.2.1)))))),((Ho (p:=⟨qf,_,none⟩) ql.out _).trans (((Ho (p:=⟨qf,_,none⟩) ql.out _).trans (((Ho (p:=⟨qf,_,none⟩) ql.out _).trans (qx.2.2.2.2.2))))))⟩ (fun qx=>?_)
        clear hK K
        refine done_ (by kernel_rfl) ?_
        try go_wp2
        refine bodyPost_ret (results_cc rfl _ _ qd qf 27 27 #[.int .i64 ye,.int .i64 yd,.slice yh qz.length yg] #[.int .i64 qi,.int .i64 qj,.slice vh zz.length vi] (0,0) (0,0) _ _ rfl (by(with_reducible repeat(first|refine Hk ?_ _|refine Hi ?_|refine Hj ?_ _));refine HE ?_ qv.out _;(with_reducible repeat(first|refine Hk ?_ _|refine Hi ?_|refine Hj ?_ _));refine HE ?_ qv.out _;(with_reducible repeat(first|refine Hk ?_ _|refine Hi ?_|refine Hj ?_ _));refine HE ?_ qv.out _;(with_reducible repeat(first|refine Hk ?_ _|refine Hi ?_|refine Hj ?_ _));refine HI (cs:=#[.int .i64 ye,.int .i64 yd,.slice none 0 0]) ?_ 2 _ rfl;(with_reducible repeat(first|refine Hk ?_ _|refine Hi ?_|refine Hj ?_ _));refine HI (cs:=#[.int .i64 ye,.int .i64 0,.slice none 0 0]) ?_ 1 _ rfl;(with_reducible repeat(first|refine Hk ?_ _|refine Hi ?_|refine Hj ?_ _));refine HI (cs:=#[.int .i64 0,.int .i64 0,.slice none 0 0]) ?_ 0 _ rfl;(with_reducible repeat(first|refine Hk ?_ _|refine Hi ?_|refine Hj ?_ _));exact qe.out) Try.underlying27 rfl (by kernel_rfl) rfl (by(with_reducible repeat(first|refine Hk ?_ _|refine Hi ?_|refine Hj ?_ _));refine HI (cs:=#[.int .i64 qi,.int .i64 qj,.slice none 0 0]) ?_ 2 _ rfl;(with_reducible repeat(first|refine Hk ?_ _|refine Hi ?_|refine Hj ?_ _));refine HI (cs:=#[.int .i64 qi,.int .i64 0,.slice none 0 0]) ?_ 1 _ rfl;(with_reducible repeat(first|refine Hk ?_ _|refine Hi ?_|refine Hj ?_ _));refine HI (cs:=#[.int .i64 0,.int .i64 0,.slice none 0 0]) ?_ 0 _ rfl;(with_reducible repeat(first|refine Hk ?_ _|refine Hi ?_|refine Hj ?_ _));refine HE ?_ qw.out _;(with_reducible repeat(first|refine Hk ?_ _|refine Hi ?_|refine Hj ?_ _));refine HE ?_ qw.out _;(with_reducible repeat(first|refine Hk ?_ _|refine Hi ?_|refine Hj ?_ _));refine HE ?_ qw.out _;(with_reducible repeat(first|refine Hk ?_ _|refine Hi ?_|refine Hj ?_ _));exact qg.out) Try.underlying27 rfl (by kernel_rfl)) rfl ?_
        exact⟨_,_,by first|rfl|(simp [errW_none,errW_some] <;> rfl)|(simp [*,errW_none,errW_some] <;> rfl),by(with_reducible repeat(first|apply Ht|apply Hs|apply Hn));exact HD (HC (p:=⟨qf,2,none⟩) (HC (p:=⟨qf,1,none⟩) (HC (p:=⟨qf,0,none⟩) (HC (p:=⟨qd,2,none⟩) (HC (p:=⟨qd,1,none⟩) (HC (p:=⟨qd,0,none⟩) (HJ (HJ qb.out qe.out (by decide)) qg.out (by decide)) (fun _ hk=>hk.1.2) (.int .i64 ye)) (fun _ hk=>hk.1.2) (.int .i64 yd)) (fun _ hk=>hk.1.2) (.slice yh qz.length yg)) (fun _ hk=>hk.2) (.int .i64 qi)) (fun _ hk=>hk.2) (.int .i64 qj)) (fun _ hk=>hk.2) (.slice vh zz.length vi)) (fun _ hk=>hk.1.1),by(with_reducible repeat(first|apply Ht|apply Hs|apply Hn));exact HD (HC (p:=⟨qf,2,none⟩) (HC (p:=⟨qf,1,none⟩) (HC (p:=⟨qf,0,none⟩) (HC (p:=⟨qd,2,none⟩) (HC (p:=⟨qd,1,none⟩) (HC (p:=⟨qd,0,none⟩) (HJ (HJ vr.out qe.out (by decide)) qg.out (by decide)) (fun _ hk=>hk.1.2) (.int .i64 ye)) (fun _ hk=>hk.1.2) (.int .i64 yd)) (fun _ hk=>hk.1.2) (.slice yh qz.length yg)) (fun _ hk=>hk.2) (.int .i64 qi)) (fun _ hk=>hk.2) (.int .i64 qj)) (fun _ hk=>hk.2) (.slice vh zz.length vi)) (fun _ hk=>hk.1.1),by repeat(first|(with_reducible first|exact qu.out|apply Hb|apply Hd|apply Hc|apply Hg|apply Hh|refine He ?_ qo.out _|refine He ?_ qq.out _|refine He ?_ qr.out _|refine He ?_ qt.out _)|exact qu.out),by repeat(first|(with_reducible first|exact HB.out|apply HF|apply Hv|apply Hy|refine Hl ?_ (Hf qu.out)|refine Hl ?_ yo.out|refine Hl ?_ yq.out|refine Hl ?_ za.out|refine Hl ?_ ze.out)|exact HB.out),by repeat(first|(with_reducible first|exact HK.out|apply Hu|apply Hx|apply Hp|apply Hw|refine Hm ?_ yf.out _|refine Hm ?_ yi.out _|refine Hm ?_ yn.out _|refine Hm ?_ yp.out _)|exact HK.out)⟩
       ·rw [if_neg c121] at H
        exact absurd H (by simp)
      ·rw [if_neg c120] at H
       have c120b0:(zu == 2)=false:=beq_eq_false_iff_ne.mpr c120
       have c120b1:(zu != 2)=true:=bne_iff_ne.mpr c120
       by_cases c139:zu=3
       ·rw [if_pos c139] at H
        have c139b0:(zu == 3)=true:=beq_iff_eq.mpr c139
        have c139b1:(zu != 3)=false:=bne_eq_false_iff_eq.mpr c139
        clear c139
        replace H:=Option.bind_eq_some_iff.mp H
        obtain⟨⟨va,vg,vc,t328,t329⟩,A1400,H⟩:=H
        replace H:(some (ye,yd,qz,va,vg,vc,t328,t329))=some (r1,r2,r3,r4,r5,r6,r7,r8):=H
        have A140:=Ha A1400
        clear A1400
        simp only [Option.some.injEq,Prod.mk.injEq] at H
        obtain⟨rfl,rfl,rfl,rfl,rfl,rfl,rfl,rfl⟩:=H
        try go_wp2_with (first|((with_reducible refine HN (f:=64) rfl ?_);refine goesL_ (some 67) rfl rfl Try.func64 (by kernel_rfl) rfl #[.pointer (some ⟨g,0,none⟩),.int .i64 20] rfl (by(try simp only [List.map_toArray,List.map_cons,List.map_nil]);first|done|rfl|(simp only [List.length_drop,List.length_take];rfl)) ?_;(with_reducible refine(spec_l1Once.calls g s0_0 zj zi 20 true vb vd w0 _ ?side1 ?side2 A69.out).mono ?_);(case side1=>repeat(first|(with_reducible first|exact qu.out|apply Hb|apply Hd|apply Hc|apply Hg|apply Hh|refine He ?_ qo.out _|refine He ?_ qq.out _|refine He ?_ qr.out _|refine He ?_ qt.out _)|exact qu.out));(case side2=>repeat(first|(with_reducible first|exact HB.out|apply HF|apply Hv|apply Hy|refine Hl ?_ (Hf qu.out)|refine Hl ?_ yo.out|refine Hl ?_ yq.out|refine Hl ?_ za.out|refine Hl ?_ ze.out)|exact HB.out));rintro e w141 ⟨rfl,hi,hb,hk⟩;refine⟨_,rfl,?_⟩;have yt:=Ha (HD (HM (IsS84.apartQ (show IsS84 w0 _ g s0_0 zj zi from by repeat(first|(with_reducible first|exact qu.out|apply Hb|apply Hd|apply Hc|apply Hg|apply Hh|refine He ?_ qo.out _|refine He ?_ qq.out _|refine He ?_ qr.out _|refine He ?_ qt.out _)|exact qu.out)) (by(with_reducible repeat(first|apply Ht|apply Hs|apply Hn));exact qb.out) (by decide)) hk (fun _ h=>h.2)) (fun _ h=>h.1));have yv:=Ha (HD (HM (IsS84.apartQ (show IsS84 w0 _ g s0_0 zj zi from by repeat(first|(with_reducible first|exact qu.out|apply Hb|apply Hd|apply Hc|apply Hg|apply Hh|refine He ?_ qo.out _|refine He ?_ qq.out _|refine He ?_ qr.out _|refine He ?_ qt.out _)|exact qu.out)) (by(with_reducible repeat(first|apply Ht|apply Hs|apply Hn));exact qa.out) (by decide)) hk (fun _ h=>h.2)) (fun _ h=>h.1));have ys:=Ha (Hr hk (g':=qd) (o:=.cells #[.int .i64 0,.int .i64 0,.slice none 0 0] 27 (0,0)) (by(with_reducible repeat(first|refine Hk ?_ _|refine Hi ?_|refine Hj ?_ _));exact qe.out) zf.out (by simp));have yw:=Ha (Hr hk (g':=qf) (o:=.cells #[.int .i64 0,.int .i64 0,.slice none 0 0] 27 (0,0)) (by(with_reducible repeat(first|refine Hk ?_ _|refine Hi ?_|refine Hj ?_ _));exact qg.out) zg.out (by simp));have yu:=Ha (Hr hk (g':=ya) (o:=.cells #[.int .i64 ye,.int .i64 yd,.slice yh qz.length yg] 27 (0,0)) (by(with_reducible repeat(first|refine Hk ?_ _|refine Hi ?_|refine Hj ?_ _));exact qh.out) zh.out (by simp));have yx:=Ha (Hr hk (g':=qp) (o:=.cells #[.int .i64 qi,.int .i64 qj,qy] 27 (0,0)) (by(with_reducible repeat(first|refine Hk ?_ _|refine Hi ?_|refine Hj ?_ _));exact qc.out) zc.out (by simp));have yy:=Ha (HG (by repeat(first|(with_reducible first|exact HK.out|apply Hu|apply Hx|apply Hp|apply Hw|refine Hm ?_ yf.out _|refine Hm ?_ yi.out _|refine Hm ?_ yn.out _|refine Hm ?_ yp.out _)|exact HK.out)) hk (.inl rfl));have yz:=Ha (hb);have zd:=Ha (hi);clear qb;clear qa;clear qe;clear qg;clear qh;clear qc;clear HK;clear HB;clear qu;have qb:=yt;have qa:=yv;have qe:=ys;have qg:=yw;have qh:=yu;have qc:=yx;have HK:=yy;have HB:=yz;have qu:=zd;clear yt yv ys yw yu yx yy yz zd;(try clear hb);(try clear hb2);(try clear hk);(try clear hi))|((with_reducible refine HN (f:=65) rfl ?_);refine goesL_ (some 69) rfl rfl Try.func65 (by kernel_rfl) rfl #[.pointer (some ⟨g,0,none⟩),.int .i64 4] rfl (by(try simp only [List.map_toArray,List.map_cons,List.map_nil]);first|done|rfl|(simp only [List.length_drop,List.length_take];rfl)) ?_;(with_reducible refine(spec_l1Below.calls g s0_0 vb vd 4 zu zx zy w0 _ ?side1 ?side2 A71.out).mono ?_);(case side1=>repeat(first|(with_reducible first|exact qu.out|apply Hb|apply Hd|apply Hc|apply Hg|apply Hh|refine He ?_ qo.out _|refine He ?_ qq.out _|refine He ?_ qr.out _|refine He ?_ qt.out _)|exact qu.out));(case side2=>repeat(first|(with_reducible first|exact HB.out|apply HF|apply Hv|apply Hy|refine Hl ?_ (Hf qu.out)|refine Hl ?_ yo.out|refine Hl ?_ yq.out|refine Hl ?_ za.out|refine Hl ?_ ze.out)|exact HB.out));rintro e w142 ⟨rfl,hi,hb,hk⟩;refine⟨_,rfl,?_⟩;have yt:=Ha (HD (HM (IsS84.apartQ (show IsS84 w0 _ g s0_0 vb vd from by repeat(first|(with_reducible first|exact qu.out|apply Hb|apply Hd|apply Hc|apply Hg|apply Hh|refine He ?_ qo.out _|refine He ?_ qq.out _|refine He ?_ qr.out _|refine He ?_ qt.out _)|exact qu.out)) (by(with_reducible repeat(first|apply Ht|apply Hs|apply Hn));exact qb.out) (by decide)) hk (fun _ h=>h.2)) (fun _ h=>h.1));have yv:=Ha (HD (HM (IsS84.apartQ (show IsS84 w0 _ g s0_0 vb vd from by repeat(first|(with_reducible first|exact qu.out|apply Hb|apply Hd|apply Hc|apply Hg|apply Hh|refine He ?_ qo.out _|refine He ?_ qq.out _|refine He ?_ qr.out _|refine He ?_ qt.out _)|exact qu.out)) (by(with_reducible repeat(first|apply Ht|apply Hs|apply Hn));exact qa.out) (by decide)) hk (fun _ h=>h.2)) (fun _ h=>h.1));have ys:=Ha (Hr hk (g':=qd) (o:=.cells #[.int .i64 0,.int .i64 0,.slice none 0 0] 27 (0,0)) (by(with_reducible repeat(first|refine Hk ?_ _|refine Hi ?_|refine Hj ?_ _));exact qe.out) zf.out (by simp));have yw:=Ha (Hr hk (g':=qf) (o:=.cells #[.int .i64 0,.int .i64 0,.slice none 0 0] 27 (0,0)) (by(with_reducible repeat(first|refine Hk ?_ _|refine Hi ?_|refine Hj ?_ _));exact qg.out) zg.out (by simp));have yu:=Ha (Hr hk (g':=ya) (o:=.cells #[.int .i64 ye,.int .i64 yd,.slice yh qz.length yg] 27 (0,0)) (by(with_reducible repeat(first|refine Hk ?_ _|refine Hi ?_|refine Hj ?_ _));exact qh.out) zh.out (by simp));have yx:=Ha (Hr hk (g':=qp) (o:=.cells #[.int .i64 qi,.int .i64 qj,qy] 27 (0,0)) (by(with_reducible repeat(first|refine Hk ?_ _|refine Hi ?_|refine Hj ?_ _));exact qc.out) zc.out (by simp));have yy:=Ha (HG (by repeat(first|(with_reducible first|exact HK.out|apply Hu|apply Hx|apply Hp|apply Hw|refine Hm ?_ yf.out _|refine Hm ?_ yi.out _|refine Hm ?_ yn.out _|refine Hm ?_ yp.out _)|exact HK.out)) hk (.inl rfl));have yz:=Ha (hb);have zd:=Ha (hi);clear qb;clear qa;clear qe;clear qg;clear qh;clear qc;clear HK;clear HB;clear qu;have qb:=yt;have qa:=yv;have qe:=ys;have qg:=yw;have qh:=yu;have qc:=yx;have HK:=yy;have HB:=yz;have qu:=zd;clear yt yv ys yw yu yx yy yz zd;(try clear hb);(try clear hb2);(try clear hk);(try clear hi))|((with_reducible refine HN (f:=92) rfl ?_);refine goesL_ (some 99) rfl rfl Try.func92 (by kernel_rfl) rfl #[.pointer (some ⟨g,0,none⟩),.int .i64 (wrap64 (4*(wrap64 (1+yr)))),.int .i64 (wrap64 (4*(wrap64 (1+yj))))] rfl (by(try simp only [List.map_toArray,List.map_cons,List.map_nil]);first|done|rfl|(simp only [List.length_drop,List.length_take];rfl)) ?_;(with_reducible refine(spec_l14DrawPicture.calls kj6 g s0_0 zx zy (wrap64 (4*(wrap64 (1+yr)))) (wrap64 (4*(wrap64 (1+yj)))) va vg vc t328 t329 w0 _ ?side1 ?side2 A140.out).mono ?_);(case side1=>repeat(first|(with_reducible first|exact qu.out|apply Hb|apply Hd|apply Hc|apply Hg|apply Hh|refine He ?_ qo.out _|refine He ?_ qq.out _|refine He ?_ qr.out _|refine He ?_ qt.out _)|exact qu.out));(case side2=>repeat(first|(with_reducible first|exact HB.out|apply HF|apply Hv|apply Hy|refine Hl ?_ (Hf qu.out)|refine Hl ?_ yo.out|refine Hl ?_ yq.out|refine Hl ?_ za.out|refine Hl ?_ ze.out)|exact HB.out));rintro e w143 ⟨v326,rfl,ho0,hi,hb,hk⟩;refine⟨_,rfl,?_⟩;have yt:=Ha (HD (Kd.Q_told (Kd.Q_oldK (IsS84.apartQ (show IsS84 w0 _ g s0_0 zx zy from by repeat(first|(with_reducible first|exact qu.out|apply Hb|apply Hd|apply Hc|apply Hg|apply Hh|refine He ?_ qo.out _|refine He ?_ qq.out _|refine He ?_ qr.out _|refine He ?_ qt.out _)|exact qu.out)) (by(with_reducible repeat(first|apply Ht|apply Hs|apply Hn));exact qb.out) (by decide)) hk) (Kd.R_base ho0)) (fun _ h_=>h_.1));have yv:=Ha (HD (Kd.Q_told (Kd.Q_oldK (IsS84.apartQ (show IsS84 w0 _ g s0_0 zx zy from by repeat(first|(with_reducible first|exact qu.out|apply Hb|apply Hd|apply Hc|apply Hg|apply Hh|refine He ?_ qo.out _|refine He ?_ qq.out _|refine He ?_ qr.out _|refine He ?_ qt.out _)|exact qu.out)) (by(with_reducible repeat(first|apply Ht|apply Hs|apply Hn));exact qa.out) (by decide)) hk) (Kd.R_base ho0)) (fun _ h_=>h_.1));have ys:=Ha (Hr hk (g':=qd) (o:=.cells #[.int .i64 0,.int .i64 0,.slice none 0 0] 27 (0,0)) (by(with_reducible repeat(first|refine Hk ?_ _|refine Hi ?_|refine Hj ?_ _));exact qe.out) zf.out (by simp));have yw:=Ha (Hr hk (g':=qf) (o:=.cells #[.int .i64 0,.int .i64 0,.slice none 0 0] 27 (0,0)) (by(with_reducible repeat(first|refine Hk ?_ _|refine Hi ?_|refine Hj ?_ _));exact qg.out) zg.out (by simp));have yu:=Ha (Hr hk (g':=ya) (o:=.cells #[.int .i64 ye,.int .i64 yd,.slice yh qz.length yg] 27 (0,0)) (by(with_reducible repeat(first|refine Hk ?_ _|refine Hi ?_|refine Hj ?_ _));exact qh.out) zh.out (by simp));have yx:=Ha (Hr hk (g':=qp) (o:=.cells #[.int .i64 qi,.int .i64 qj,qy] 27 (0,0)) (by(with_reducible repeat(first|refine Hk ?_ _|refine Hi ?_|refine Hj ?_ _));exact qc.out) zc.out (by simp));have yy:=Ha (Kd.R_lower (Kd.R_new' (Kd.R_new' ho0 (Kd.Q_lt (by(with_reducible repeat(first|apply Ht|apply Hs|apply Hn));exact qb.out))) (Kd.Q_lt (by(with_reducible repeat(first|apply Ht|apply Hs|apply Hn));exact qa.out))) (keep_size (w:=w) (g:=g) (row:=none) (by repeat(first|(with_reducible first|exact HK.out|apply Hu|apply Hx|apply Hp|apply Hw|refine Hm ?_ yf.out _|refine Hm ?_ yi.out _|refine Hm ?_ yn.out _|refine Hm ?_ yp.out _)|exact HK.out))));have yz:=Ha (HG (by repeat(first|(with_reducible first|exact HK.out|apply Hu|apply Hx|apply Hp|apply Hw|refine Hm ?_ yf.out _|refine Hm ?_ yi.out _|refine Hm ?_ yn.out _|refine Hm ?_ yp.out _)|exact HK.out)) hk (.inl rfl));have zd:=Ha (hb);have ve:=Ha (hi);clear qb;clear qa;clear qe;clear qg;clear qh;clear qc;clear HK;clear HB;clear qu;have qb:=yt;have qa:=yv;have qe:=ys;have qg:=yw;have qh:=yu;have qc:=yx;have vp:=yy;have HK:=yz;have HB:=zd;have qu:=ve;clear yt yv ys yw yu yx yy yz zd ve;(try clear hb);(try clear hb2);(try clear hk);(try clear hi);(try clear ho0);have hnb144:=qk.out;have hnc144:=yc.out;have hnb145:=ql.out;have hnc145:=yb.out;have hnb146:=zr.out;have hnc146:=zb.out;have hnb147:=zc.out;have hnc147:=qt.out;have hcz148_0:w143.cell? ⟨qp,0,none⟩=some (.int .i64 qi):=(Hq qc.out 0).trans rfl;have hcz148_1:w143.cell? ⟨qp,1,none⟩=some (.int .i64 qj):=(Hq qc.out 1).trans rfl;have hcz148_2:w143.cell? ⟨qp,2,none⟩=some (qy):=(Hq qc.out 2).trans rfl;have hfz148_0:=Hz qc.out 0;have hfz148_1:=Hz qc.out 1;have hfz148_2:=Hz qc.out 2;obtain⟨zp,zo,eo149⟩:=Kd.R_slice vp.out;subst eo149))
        have yt:Aside0 (Kd.Q (Kd.int .i64) 2 (((w143.setCell ⟨qp,0,none⟩ (.int .i64 va)).setCell ⟨qp,1,none⟩ (.int .i64 vg)).setCell ⟨qp,2,none⟩ (.slice zp vc.length zo)) w.heap.size (fun k_=>some k_≠(qy:Value).ownBlock∧some k_≠(.slice zp vc.length zo:Value).ownBlock) (.slice yh qz.length yg) qz):=⟨by(with_reducible repeat(first|apply Ht|apply Hs|apply Hn));exact HD (HC (p:=⟨qp,2,none⟩) (HC (p:=⟨qp,1,none⟩) (HC (p:=⟨qp,0,none⟩) (HJ qb.out qc.out (by decide)) (fun _ hk=>hk.2) (.int .i64 va)) (fun _ hk=>hk.2) (.int .i64 vg)) (fun _ hk=>hk.2) (.slice zp vc.length zo)) (fun _ hk=>⟨hk.1.1,hk.1.2⟩)⟩
        have yv:Aside0 (Kd.Q (Kd.int .i64) 2 (((w143.setCell ⟨qp,0,none⟩ (.int .i64 va)).setCell ⟨qp,1,none⟩ (.int .i64 vg)).setCell ⟨qp,2,none⟩ (.slice zp vc.length zo)) w.heap.size (fun k_=>some k_≠(.slice yh qz.length yg:Value).ownBlock∧some k_≠(.slice zp vc.length zo:Value).ownBlock) qy qs):=⟨by(with_reducible repeat(first|apply Ht|apply Hs|apply Hn));exact HD (HC (p:=⟨qp,2,none⟩) (HC (p:=⟨qp,1,none⟩) (HC (p:=⟨qp,0,none⟩) (HJ qa.out qc.out (by decide)) (fun _ hk=>hk.2) (.int .i64 va)) (fun _ hk=>hk.2) (.int .i64 vg)) (fun _ hk=>hk.2) (.slice zp vc.length zo)) (fun _ hk=>⟨hk.1.1,hk.1.2⟩)⟩
        have ys:Aside0 (Kd.R (Kd.int .i64) 2 (((w143.setCell ⟨qp,0,none⟩ (.int .i64 va)).setCell ⟨qp,1,none⟩ (.int .i64 vg)).setCell ⟨qp,2,none⟩ (.slice zp vc.length zo)) w.heap.size (fun k_=>some k_≠(.slice yh qz.length yg:Value).ownBlock∧some k_≠(qy:Value).ownBlock) (.slice zp vc.length zo) vc):=⟨by(with_reducible repeat(first|apply HS|apply HR|apply HH));exact HQ (HP (p:=⟨qp,2,none⟩) (HP (p:=⟨qp,1,none⟩) (HP (p:=⟨qp,0,none⟩) (Kd.R_types vp.out qc.out (by decide)) (fun _ hk=>hk.2) (.int .i64 va)) (fun _ hk=>hk.2) (.int .i64 vg)) (fun _ hk=>hk.2) (.slice zp vc.length zo)) (fun _ hk=>⟨hk.1.1.2,hk.1.2⟩)⟩
        have yw:Aside0 ((((w143.setCell ⟨qp,0,none⟩ (.int .i64 va)).setCell ⟨qp,1,none⟩ (.int .i64 vg)).setCell ⟨qp,2,none⟩ (.slice zp vc.length zo)).heap[qd]? = some (.cells #[.int .i64 0,.int .i64 0,.slice none 0 0] 27 (0,0))):=⟨by(with_reducible repeat(first|refine Hk ?_ _|refine Hi ?_|refine Hj ?_ _));refine HE ?_ yc.out _;(with_reducible repeat(first|refine Hk ?_ _|refine Hi ?_|refine Hj ?_ _));refine HE ?_ yc.out _;(with_reducible repeat(first|refine Hk ?_ _|refine Hi ?_|refine Hj ?_ _));refine HE ?_ yc.out _;(with_reducible repeat(first|refine Hk ?_ _|refine Hi ?_|refine Hj ?_ _));exact qe.out⟩
        have yu:Aside0 ((((w143.setCell ⟨qp,0,none⟩ (.int .i64 va)).setCell ⟨qp,1,none⟩ (.int .i64 vg)).setCell ⟨qp,2,none⟩ (.slice zp vc.length zo)).heap[qf]? = some (.cells #[.int .i64 0,.int .i64 0,.slice none 0 0] 27 (0,0))):=⟨by(with_reducible repeat(first|refine Hk ?_ _|refine Hi ?_|refine Hj ?_ _));refine HE ?_ yb.out _;(with_reducible repeat(first|refine Hk ?_ _|refine Hi ?_|refine Hj ?_ _));refine HE ?_ yb.out _;(with_reducible repeat(first|refine Hk ?_ _|refine Hi ?_|refine Hj ?_ _));refine HE ?_ yb.out _;(with_reducible repeat(first|refine Hk ?_ _|refine Hi ?_|refine Hj ?_ _));exact qg.out⟩
        have yx:Aside0 ((((w143.setCell ⟨qp,0,none⟩ (.int .i64 va)).setCell ⟨qp,1,none⟩ (.int .i64 vg)).setCell ⟨qp,2,none⟩ (.slice zp vc.length zo)).heap[ya]? = some (.cells #[.int .i64 ye,.int .i64 yd,.slice yh qz.length yg] 27 (0,0))):=⟨by(with_reducible repeat(first|refine Hk ?_ _|refine Hi ?_|refine Hj ?_ _));refine HE ?_ zb.out _;(with_reducible repeat(first|refine Hk ?_ _|refine Hi ?_|refine Hj ?_ _));refine HE ?_ zb.out _;(with_reducible repeat(first|refine Hk ?_ _|refine Hi ?_|refine Hj ?_ _));refine HE ?_ zb.out _;(with_reducible repeat(first|refine Hk ?_ _|refine Hi ?_|refine Hj ?_ _));exact qh.out⟩
        have yy:Aside0 ((((w143.setCell ⟨qp,0,none⟩ (.int .i64 va)).setCell ⟨qp,1,none⟩ (.int .i64 vg)).setCell ⟨qp,2,none⟩ (.slice zp vc.length zo)).heap[qp]? = some (.cells #[.int .i64 va,.int .i64 vg,.slice zp vc.length zo] 27 (0,0))):=⟨by(with_reducible repeat(first|refine Hk ?_ _|refine Hi ?_|refine Hj ?_ _));refine HI (cs:=#[.int .i64 va,.int .i64 vg,qy]) ?_ 2 _ rfl;(with_reducible repeat(first|refine Hk ?_ _|refine Hi ?_|refine Hj ?_ _));refine HI (cs:=#[.int .i64 va,.int .i64 qj,qy]) ?_ 1 _ rfl;(with_reducible repeat(first|refine Hk ?_ _|refine Hi ?_|refine Hj ?_ _));refine HI (cs:=#[.int .i64 qi,.int .i64 qj,qy]) ?_ 0 _ rfl;(with_reducible repeat(first|refine Hk ?_ _|refine Hi ?_|refine Hj ?_ _));exact qc.out⟩
        have yz:Aside0 (IsS84 w0 (((w143.setCell ⟨qp,0,none⟩ (.int .i64 va)).setCell ⟨qp,1,none⟩ (.int .i64 vg)).setCell ⟨qp,2,none⟩ (.slice zp vc.length zo)) g s0_0 t328 t329):=⟨by repeat(first|(with_reducible first|exact qu.out|apply Hb|apply Hd|apply Hc|apply Hg|apply Hh|refine He ?_ qo.out _|refine He ?_ qq.out _|refine He ?_ qr.out _|refine He ?_ qt.out _)|exact qu.out)⟩
        have zd:Aside0 (KeepBut w (((w143.setCell ⟨qp,0,none⟩ (.int .i64 va)).setCell ⟨qp,1,none⟩ (.int .i64 vg)).setCell ⟨qp,2,none⟩ (.slice zp vc.length zo)) g none):=⟨by repeat(first|(with_reducible first|exact HK.out|apply Hu|apply Hx|apply Hp|apply Hw|refine Hm ?_ yf.out _|refine Hm ?_ yi.out _|refine Hm ?_ yn.out _|refine Hm ?_ yp.out _)|exact HK.out)⟩
        have ve:Aside0 (Below w0.heap.size w0 (((w143.setCell ⟨qp,0,none⟩ (.int .i64 va)).setCell ⟨qp,1,none⟩ (.int .i64 vg)).setCell ⟨qp,2,none⟩ (.slice zp vc.length zo))):=⟨by repeat(first|(with_reducible first|exact HB.out|apply HF|apply Hv|apply Hy|refine Hl ?_ (Hf qu.out)|refine Hl ?_ yo.out|refine Hl ?_ yq.out|refine Hl ?_ za.out|refine Hl ?_ ze.out)|exact HB.out)⟩
        (try clear qb)
        (try clear qa)
        (try clear vp)
        (try clear qe)
        (try clear qg)
        (try clear qh)
        (try clear qc)
        (try clear qu)
        (try clear HK)
        (try clear HB)
        generalize (((w143.setCell ⟨qp,0,none⟩ (.int .i64 va)).setCell ⟨qp,1,none⟩ (.int .i64 vg)).setCell ⟨qp,2,none⟩ (.slice zp vc.length zo))=w150 at yt yv ys yw yu yx yy yz zd ve ⊢
        have qb:=yt
        have qa:=yv
        have vp:=ys
        have qe:=yw
        have qg:=yu
        have qh:=yx
        have qc:=yy
        have qu:=yz
        have HK:=zd
        have HB:=ve
        clear yt yv ys yw yu yx yy yz zd ve
        have yt:=Ha (Hn qb.out)
        have yv:=Ha (Hn qa.out)
        have ys:=Ha (HH vp.out)
        have yw:=Ha (Hi qe.out)
        have yu:=Ha (Hi qg.out)
        have yx:=Ha (Hi qh.out)
        have yy:=Ha (Hi qc.out)
        have yz:=Ha (Hc qu.out)
        have zd:=Ha (Hp HK.out)
        have ve:=Ha (Hy HB.out)
        clear qb
        clear qa
        clear vp
        clear qe
        clear qg
        clear qh
        clear qc
        clear qu
        clear HK
        clear HB
        have qb:=yt
        have qa:=yv
        have vp:=ys
        have qe:=yw
        have qg:=yu
        have qh:=yx
        have qc:=yy
        have qu:=yz
        have HK:=zd
        have HB:=ve
        clear yt yv ys yw yu yx yy yz zd ve
        refine start_ (n:=4) (S:=fun w'=>w'.cell? ⟨ya,0,none⟩=some (.int .i64 ye)∧w'.cell? ⟨ya,1,none⟩=some (.int .i64 yd)∧w'.cell? ⟨ya,2,none⟩=some (.slice yh qz.length yg)∧w'.cell? ⟨qp,0,none⟩=some (.int .i64 va)∧w'.cell? ⟨qp,1,none⟩=some (.int .i64 vg)∧w'.cell? ⟨qp,2,none⟩=some (.slice zp vc.length zo)) (ds:=[]) #[false,false,false,false] (by kernel_rfl) rfl rfl ⟨(Hq qh.out 0).trans rfl,(Hq qh.out 1).trans rfl,(Hq qh.out 2).trans rfl,(Hq qc.out 0).trans rfl,(Hq qc.out 1).trans rfl,(Hq qc.out 2).trans rfl⟩ (fun qx=>?_)
        generalize w150.drew=w151 at qb qa vp qe qg qh qc qu HK HB qx ⊢
        refine take_ (i:=0) (N:=some 100) (v:=?_) (a':=?_) #[true,false,false,false] rfl rfl (by kernel_rfl) (fun _ _ _ h=>h) (Or.inl ⟨by rfl,?_⟩) qx ?_ ?_
        rotate_left
        ·rintro w' ⟨s0,s1,s2,s3,s4,s5⟩
         go_simp
         with_reducible rfl
        rotate_left
        ·simp only [Act.put,List.setIfInBounds_toArray,List.set_cons_zero,List.set_cons_succ,i64_w,i32_w]
         rfl
        refine take_ (i:=1) (N:=some 101) (v:=?_) (a':=?_) #[true,true,false,false] rfl rfl (by kernel_rfl) (fun _ _ _ h=>h) (Or.inl ⟨by rfl,?_⟩) qx ?_ ?_
        rotate_left
        ·rintro w' ⟨s0,s1,s2,s3,s4,s5⟩
         go_simp
         with_reducible rfl
        rotate_left
        ·simp only [Act.put,List.setIfInBounds_toArray,List.set_cons_zero,List.set_cons_succ,i64_w,i32_w]
         rfl
        refine one_ (i:=2) (N:=none) #[true,true,true,false] rfl rfl (by kernel_rfl) (by decide) (fun K hK=>?_)
        have hs152:w151.cell? ⟨qd,0,none⟩=some (.int .i64 0):=(Hq qe.out 0).trans rfl
        have hfs152:=Hz qe.out 0
        have hns152_1:=qw.out
        have hns152_2:=qn.out
        have hns152_3:=qk.out
        have hms152_1:=qv.out
        have hms152_2:=yk.out
        have hms152_3:=yc.out
        have hs153:w151.cell? ⟨qd,1,none⟩=some (.int .i64 0):=(Hq qe.out 1).trans rfl
        have hfs153:=Hz qe.out 1
        have hns153_1:=qw.out
        have hns153_2:=qn.out
        have hns153_3:=qk.out
        have hms153_1:=qv.out
        have hms153_2:=yk.out
        have hms153_3:=yc.out
        have hs154:w151.cell? ⟨qd,2,none⟩=some (.slice none 0 0):=(Hq qe.out 2).trans rfl
        have hfs154:=Hz qe.out 2
        have hns154_1:=qw.out
        have hns154_2:=qn.out
        have hns154_3:=qk.out
        have hms154_1:=qv.out
        have hms154_2:=yk.out
        have hms154_3:=yc.out
        refine skip_ (w1:=?_) (by rfl) rfl ?_ ?_
        rotate_left
        ·go_simp
         rfl
        refine hK.out _ _ ⟨((Ho (p:=⟨qd,_,none⟩) qn.out _).trans (((Ho (p:=⟨qd,_,none⟩) qn.out _).trans (((Ho (p:=⟨qd,_,none⟩) qn.out _).trans (qx.1)))))),((Ho (p:=⟨qd,_,none⟩) qn.out _).trans (((Ho (p:=⟨qd,_,none⟩) qn.out _).trans (((Ho (p:=⟨qd,_,none⟩) qn.out _).trans (qx.2.1)))))),((Ho (p:=⟨qd,_,none⟩) qn.out _).trans (((Ho (p:=⟨qd,_,none⟩) qn.out _).trans (((Ho (p:=⟨qd,_,none⟩) qn.out _).trans (qx.2.2.1)))))),((Ho (p:=⟨qd,_,none⟩) qk.out _).trans (((Ho (p:=⟨qd,_,none⟩) qk.out _).trans (((Ho (p:=⟨qd,_,none⟩) qk.out _).trans (qx.2.2.2.1)))))),((Ho (p:=⟨qd,_,none⟩) qk.out _).trans (((Ho (p:=⟨qd,_,none⟩) qk.out _).trans (((Ho (p:=⟨qd,_,none⟩) qk.out _).trans (qx.2.2.2.2.1)))))),((Ho (p:=⟨qd,_,none⟩) qk.out _).trans (((Ho (p:=⟨qd,_,none⟩) qk.out _).trans (((Ho (p:=⟨qd,_,none⟩) qk.out _).trans (qx.2.2.2.2.2))))))⟩ (fun qx=>?_)
        clear hK K
        refine one_ (i:=3) (N:=none) #[true,true,true,true] rfl rfl (by kernel_rfl) (by decide) (fun K hK=>?_)
        have hs155:w151.cell? ⟨qf,0,none⟩=some (.int .i64 0):=(Hq qg.out 0).trans rfl
        have hfs155:=Hz qg.out 0
        have hns155_0:=qv.out
        have hns155_2:=qm.out
        have hns155_3:=ql.out
        have hms155_0:=qw.out
        have hms155_2:=ym.out
        have hms155_3:=yb.out
        have hs156:w151.cell? ⟨qf,1,none⟩=some (.int .i64 0):=(Hq qg.out 1).trans rfl
        have hfs156:=Hz qg.out 1
        have hns156_0:=qv.out
        have hns156_2:=qm.out
        have hns156_3:=ql.out
        have hms156_0:=qw.out
        have hms156_2:=ym.out
        have hms156_3:=yb.out
        have hs157:w151.cell? ⟨qf,2,none⟩=some (.slice none 0 0):=(Hq qg.out 2).trans rfl
        have hfs157:=Hz qg.out 2
        have hns157_0:=qv.out
        have hns157_2:=qm.out
        have hns157_3:=ql.out
        have hms157_0:=qw.out
        have hms157_2:=ym.out
        have hms157_3:=yb.out
        refine skip_ (w1:=?_) (by rfl) rfl ?_ ?_
        rotate_left
        ·go_simp
         rfl
        refine hK.out _ _ ⟨((Ho (p:=⟨qf,_,none⟩) qm.out _).trans (((Ho (p:=⟨qf,_,none⟩) qm.out _).trans (((Ho (p:=⟨qf,_,none⟩) qm.out _).trans (qx.1)))))),((Ho (p:=⟨qf,_,none⟩) qm.out _).trans (((Ho (p:=⟨qf,_,none⟩) qm.out _).trans (((Ho (p:=⟨qf,_,none⟩) qm.out _).trans (qx.2.1)))))),((Ho (p:=⟨qf,_,none⟩) qm.out _).trans (((Ho (p:=⟨qf,_,none⟩) qm.out _).trans (((Ho (p:=⟨qf,_,none⟩) qm.out _).trans (qx.2.2.1)))))),((Ho (p:=⟨qf,_,none⟩) ql.out _).trans (((Ho (p:=⟨qf,_,none⟩) ql.out _).trans (((Ho (p:=⟨qf,_,none⟩) ql.out _).trans (qx.2.2.2.1)))))),((Ho (p:=⟨qf,_,none⟩) ql.out _).trans (((Ho (p:=⟨qf,_,none⟩) ql.out _).trans (((Ho (p:=⟨qf,_,none⟩) ql.out _).trans (qx.2.2.2.2.1)))))),((Ho (p:=⟨qf,_,none⟩) ql.out _).trans (((Ho (p:=⟨qf,_,none⟩) ql.out _).trans (((Ho (p:=⟨qf,_,none⟩) ql.out _).trans (qx.2.2.2.2.2))))))⟩ (fun qx=>?_)
        clear hK K
        refine done_ (by kernel_rfl) ?_
        try go_wp2
        refine bodyPost_ret (results_cc rfl _ _ qd qf 27 27 #[.int .i64 ye,.int .i64 yd,.slice yh qz.length yg] #[.int .i64 va,.int .i64 vg,.slice zp vc.length zo] (0,0) (0,0) _ _ rfl (by(with_reducible repeat(first|refine Hk ?_ _|refine Hi ?_|refine Hj ?_ _));refine HE ?_ qv.out _;(with_reducible repeat(first|refine Hk ?_ _|refine Hi ?_|refine Hj ?_ _));refine HE ?_ qv.out _;(with_reducible repeat(first|refine Hk ?_ _|refine Hi ?_|refine Hj ?_ _));refine HE ?_ qv.out _;(with_reducible repeat(first|refine Hk ?_ _|refine Hi ?_|refine Hj ?_ _));refine HI (cs:=#[.int .i64 ye,.int .i64 yd,.slice none 0 0]) ?_ 2 _ rfl;(with_reducible repeat(first|refine Hk ?_ _|refine Hi ?_|refine Hj ?_ _));refine HI (cs:=#[.int .i64 ye,.int .i64 0,.slice none 0 0]) ?_ 1 _ rfl;(with_reducible repeat(first|refine Hk ?_ _|refine Hi ?_|refine Hj ?_ _));refine HI (cs:=#[.int .i64 0,.int .i64 0,.slice none 0 0]) ?_ 0 _ rfl;(with_reducible repeat(first|refine Hk ?_ _|refine Hi ?_|refine Hj ?_ _));exact qe.out) Try.underlying27 rfl (by kernel_rfl) rfl (by(with_reducible repeat(first|refine Hk ?_ _|refine Hi ?_|refine Hj ?_ _));refine HI (cs:=#[.int .i64 va,.int .i64 vg,.slice none 0 0]) ?_ 2 _ rfl;(with_reducible repeat(first|refine Hk ?_ _|refine Hi ?_|refine Hj ?_ _));refine HI (cs:=#[.int .i64 va,.int .i64 0,.slice none 0 0]) ?_ 1 _ rfl;(with_reducible repeat(first|refine Hk ?_ _|refine Hi ?_|refine Hj ?_ _));refine HI (cs:=#[.int .i64 0,.int .i64 0,.slice none 0 0]) ?_ 0 _ rfl;(with_reducible repeat(first|refine Hk ?_ _|refine Hi ?_|refine Hj ?_ _));refine HE ?_ qw.out _;(with_reducible repeat(first|refine Hk ?_ _|refine Hi ?_|refine Hj ?_ _));refine HE ?_ qw.out _;(with_reducible repeat(first|refine Hk ?_ _|refine Hi ?_|refine Hj ?_ _));refine HE ?_ qw.out _;(with_reducible repeat(first|refine Hk ?_ _|refine Hi ?_|refine Hj ?_ _));exact qg.out) Try.underlying27 rfl (by kernel_rfl)) rfl ?_
        exact⟨_,_,by first|rfl|(simp [errW_none,errW_some] <;> rfl)|(simp [*,errW_none,errW_some] <;> rfl),by(with_reducible repeat(first|apply Ht|apply Hs|apply Hn));exact HD (HC (p:=⟨qf,2,none⟩) (HC (p:=⟨qf,1,none⟩) (HC (p:=⟨qf,0,none⟩) (HC (p:=⟨qd,2,none⟩) (HC (p:=⟨qd,1,none⟩) (HC (p:=⟨qd,0,none⟩) (HJ (HJ qb.out qe.out (by decide)) qg.out (by decide)) (fun _ hk=>hk.1.2) (.int .i64 ye)) (fun _ hk=>hk.1.2) (.int .i64 yd)) (fun _ hk=>hk.1.2) (.slice yh qz.length yg)) (fun _ hk=>hk.2) (.int .i64 va)) (fun _ hk=>hk.2) (.int .i64 vg)) (fun _ hk=>hk.2) (.slice zp vc.length zo)) (fun _ hk=>hk.1.1.2),Kd.Q_of_R (by(with_reducible repeat(first|apply HS|apply HR|apply HH));exact HQ (HP (p:=⟨qf,2,none⟩) (HP (p:=⟨qf,1,none⟩) (HP (p:=⟨qf,0,none⟩) (HP (p:=⟨qd,2,none⟩) (HP (p:=⟨qd,1,none⟩) (HP (p:=⟨qd,0,none⟩) (Kd.R_types (Kd.R_types vp.out qe.out (by decide)) qg.out (by decide)) (fun _ hk=>hk.1.2) (.int .i64 ye)) (fun _ hk=>hk.1.2) (.int .i64 yd)) (fun _ hk=>hk.1.2) (.slice yh qz.length yg)) (fun _ hk=>hk.2) (.int .i64 va)) (fun _ hk=>hk.2) (.int .i64 vg)) (fun _ hk=>hk.2) (.slice zp vc.length zo)) (fun _ hk=>hk.1.1.1)),by repeat(first|(with_reducible first|exact qu.out|apply Hb|apply Hd|apply Hc|apply Hg|apply Hh|refine He ?_ qo.out _|refine He ?_ qq.out _|refine He ?_ qr.out _|refine He ?_ qt.out _)|exact qu.out),by repeat(first|(with_reducible first|exact HB.out|apply HF|apply Hv|apply Hy|refine Hl ?_ (Hf qu.out)|refine Hl ?_ yo.out|refine Hl ?_ yq.out|refine Hl ?_ za.out|refine Hl ?_ ze.out)|exact HB.out),by repeat(first|(with_reducible first|exact HK.out|apply Hu|apply Hx|apply Hp|apply Hw|refine Hm ?_ yf.out _|refine Hm ?_ yi.out _|refine Hm ?_ yn.out _|refine Hm ?_ yp.out _)|exact HK.out)⟩
       ·rw [if_neg c139] at H
        have c139b0:(zu == 3)=false:=beq_eq_false_iff_ne.mpr c139
        have c139b1:(zu != 3)=true:=bne_iff_ne.mpr c139
        simp only [Option.some.injEq,Prod.mk.injEq] at H
        obtain⟨rfl,rfl,rfl,rfl,rfl,rfl,rfl,rfl⟩:=H
        try go_wp2_with (first|((with_reducible refine HN (f:=64) rfl ?_);refine goesL_ (some 67) rfl rfl Try.func64 (by kernel_rfl) rfl #[.pointer (some ⟨g,0,none⟩),.int .i64 20] rfl (by(try simp only [List.map_toArray,List.map_cons,List.map_nil]);first|done|rfl|(simp only [List.length_drop,List.length_take];rfl)) ?_;(with_reducible refine(spec_l1Once.calls g s0_0 zj zi 20 true vb vd w0 _ ?side1 ?side2 A69.out).mono ?_);(case side1=>repeat(first|(with_reducible first|exact qu.out|apply Hb|apply Hd|apply Hc|apply Hg|apply Hh|refine He ?_ qo.out _|refine He ?_ qq.out _|refine He ?_ qr.out _|refine He ?_ qt.out _)|exact qu.out));(case side2=>repeat(first|(with_reducible first|exact HB.out|apply HF|apply Hv|apply Hy|refine Hl ?_ (Hf qu.out)|refine Hl ?_ yo.out|refine Hl ?_ yq.out|refine Hl ?_ za.out|refine Hl ?_ ze.out)|exact HB.out));rintro e w158 ⟨rfl,hi,hb,hk⟩;refine⟨_,rfl,?_⟩;have yt:=Ha (HD (HM (IsS84.apartQ (show IsS84 w0 _ g s0_0 zj zi from by repeat(first|(with_reducible first|exact qu.out|apply Hb|apply Hd|apply Hc|apply Hg|apply Hh|refine He ?_ qo.out _|refine He ?_ qq.out _|refine He ?_ qr.out _|refine He ?_ qt.out _)|exact qu.out)) (by(with_reducible repeat(first|apply Ht|apply Hs|apply Hn));exact qb.out) (by decide)) hk (fun _ h=>h.2)) (fun _ h=>h.1));have yv:=Ha (HD (HM (IsS84.apartQ (show IsS84 w0 _ g s0_0 zj zi from by repeat(first|(with_reducible first|exact qu.out|apply Hb|apply Hd|apply Hc|apply Hg|apply Hh|refine He ?_ qo.out _|refine He ?_ qq.out _|refine He ?_ qr.out _|refine He ?_ qt.out _)|exact qu.out)) (by(with_reducible repeat(first|apply Ht|apply Hs|apply Hn));exact qa.out) (by decide)) hk (fun _ h=>h.2)) (fun _ h=>h.1));have ys:=Ha (Hr hk (g':=qd) (o:=.cells #[.int .i64 0,.int .i64 0,.slice none 0 0] 27 (0,0)) (by(with_reducible repeat(first|refine Hk ?_ _|refine Hi ?_|refine Hj ?_ _));exact qe.out) zf.out (by simp));have yw:=Ha (Hr hk (g':=qf) (o:=.cells #[.int .i64 0,.int .i64 0,.slice none 0 0] 27 (0,0)) (by(with_reducible repeat(first|refine Hk ?_ _|refine Hi ?_|refine Hj ?_ _));exact qg.out) zg.out (by simp));have yu:=Ha (Hr hk (g':=ya) (o:=.cells #[.int .i64 ye,.int .i64 yd,.slice yh qz.length yg] 27 (0,0)) (by(with_reducible repeat(first|refine Hk ?_ _|refine Hi ?_|refine Hj ?_ _));exact qh.out) zh.out (by simp));have yx:=Ha (Hr hk (g':=qp) (o:=.cells #[.int .i64 qi,.int .i64 qj,qy] 27 (0,0)) (by(with_reducible repeat(first|refine Hk ?_ _|refine Hi ?_|refine Hj ?_ _));exact qc.out) zc.out (by simp));have yy:=Ha (HG (by repeat(first|(with_reducible first|exact HK.out|apply Hu|apply Hx|apply Hp|apply Hw|refine Hm ?_ yf.out _|refine Hm ?_ yi.out _|refine Hm ?_ yn.out _|refine Hm ?_ yp.out _)|exact HK.out)) hk (.inl rfl));have yz:=Ha (hb);have zd:=Ha (hi);clear qb;clear qa;clear qe;clear qg;clear qh;clear qc;clear HK;clear HB;clear qu;have qb:=yt;have qa:=yv;have qe:=ys;have qg:=yw;have qh:=yu;have qc:=yx;have HK:=yy;have HB:=yz;have qu:=zd;clear yt yv ys yw yu yx yy yz zd;(try clear hb);(try clear hb2);(try clear hk);(try clear hi))|((with_reducible refine HN (f:=65) rfl ?_);refine goesL_ (some 69) rfl rfl Try.func65 (by kernel_rfl) rfl #[.pointer (some ⟨g,0,none⟩),.int .i64 4] rfl (by(try simp only [List.map_toArray,List.map_cons,List.map_nil]);first|done|rfl|(simp only [List.length_drop,List.length_take];rfl)) ?_;(with_reducible refine(spec_l1Below.calls g s0_0 vb vd 4 zu zx zy w0 _ ?side1 ?side2 A71.out).mono ?_);(case side1=>repeat(first|(with_reducible first|exact qu.out|apply Hb|apply Hd|apply Hc|apply Hg|apply Hh|refine He ?_ qo.out _|refine He ?_ qq.out _|refine He ?_ qr.out _|refine He ?_ qt.out _)|exact qu.out));(case side2=>repeat(first|(with_reducible first|exact HB.out|apply HF|apply Hv|apply Hy|refine Hl ?_ (Hf qu.out)|refine Hl ?_ yo.out|refine Hl ?_ yq.out|refine Hl ?_ za.out|refine Hl ?_ ze.out)|exact HB.out));rintro e w159 ⟨rfl,hi,hb,hk⟩;refine⟨_,rfl,?_⟩;have yt:=Ha (HD (HM (IsS84.apartQ (show IsS84 w0 _ g s0_0 vb vd from by repeat(first|(with_reducible first|exact qu.out|apply Hb|apply Hd|apply Hc|apply Hg|apply Hh|refine He ?_ qo.out _|refine He ?_ qq.out _|refine He ?_ qr.out _|refine He ?_ qt.out _)|exact qu.out)) (by(with_reducible repeat(first|apply Ht|apply Hs|apply Hn));exact qb.out) (by decide)) hk (fun _ h=>h.2)) (fun _ h=>h.1));have yv:=Ha (HD (HM (IsS84.apartQ (show IsS84 w0 _ g s0_0 vb vd from by repeat(first|(with_reducible first|exact qu.out|apply Hb|apply Hd|apply Hc|apply Hg|apply Hh|refine He ?_ qo.out _|refine He ?_ qq.out _|refine He ?_ qr.out _|refine He ?_ qt.out _)|exact qu.out)) (by(with_reducible repeat(first|apply Ht|apply Hs|apply Hn));exact qa.out) (by decide)) hk (fun _ h=>h.2)) (fun _ h=>h.1));have ys:=Ha (Hr hk (g':=qd) (o:=.cells #[.int .i64 0,.int .i64 0,.slice none 0 0] 27 (0,0)) (by(with_reducible repeat(first|refine Hk ?_ _|refine Hi ?_|refine Hj ?_ _));exact qe.out) zf.out (by simp));have yw:=Ha (Hr hk (g':=qf) (o:=.cells #[.int .i64 0,.int .i64 0,.slice none 0 0] 27 (0,0)) (by(with_reducible repeat(first|refine Hk ?_ _|refine Hi ?_|refine Hj ?_ _));exact qg.out) zg.out (by simp));have yu:=Ha (Hr hk (g':=ya) (o:=.cells #[.int .i64 ye,.int .i64 yd,.slice yh qz.length yg] 27 (0,0)) (by(with_reducible repeat(first|refine Hk ?_ _|refine Hi ?_|refine Hj ?_ _));exact qh.out) zh.out (by simp));have yx:=Ha (Hr hk (g':=qp) (o:=.cells #[.int .i64 qi,.int .i64 qj,qy] 27 (0,0)) (by(with_reducible repeat(first|refine Hk ?_ _|refine Hi ?_|refine Hj ?_ _));exact qc.out) zc.out (by simp));have yy:=Ha (HG (by repeat(first|(with_reducible first|exact HK.out|apply Hu|apply Hx|apply Hp|apply Hw|refine Hm ?_ yf.out _|refine Hm ?_ yi.out _|refine Hm ?_ yn.out _|refine Hm ?_ yp.out _)|exact HK.out)) hk (.inl rfl));have yz:=Ha (hb);have zd:=Ha (hi);clear qb;clear qa;clear qe;clear qg;clear qh;clear qc;clear HK;clear HB;clear qu;have qb:=yt;have qa:=yv;have qe:=ys;have qg:=yw;have qh:=yu;have qc:=yx;have HK:=yy;have HB:=yz;have qu:=zd;clear yt yv ys yw yu yx yy yz zd;(try clear hb);(try clear hb2);(try clear hk);(try clear hi)))
        have yt:=Ha (Hn qb.out)
        have yv:=Ha (Hn qa.out)
        have ys:=Ha (Hi qe.out)
        have yw:=Ha (Hi qg.out)
        have yu:=Ha (Hi qh.out)
        have yx:=Ha (Hi qc.out)
        have yy:=Ha (Hc qu.out)
        have yz:=Ha (Hp HK.out)
        have zd:=Ha (Hy HB.out)
        clear qb
        clear qa
        clear qe
        clear qg
        clear qh
        clear qc
        clear qu
        clear HK
        clear HB
        have qb:=yt
        have qa:=yv
        have qe:=ys
        have qg:=yw
        have qh:=yu
        have qc:=yx
        have qu:=yy
        have HK:=yz
        have HB:=zd
        clear yt yv ys yw yu yx yy yz zd
        obtain⟨Ao166,co166,eo166,_⟩:=Kd.Q_slice qa.out
        (first|subst eo166|(injection eo166 with f1_ f2_ f3_;have f4_:=f1_.symm;have f5_:=f3_.symm;clear f1_ f2_ f3_;subst f4_;subst f5_))
        refine start_ (n:=4) (S:=fun w'=>w'.cell? ⟨ya,0,none⟩=some (.int .i64 ye)∧w'.cell? ⟨ya,1,none⟩=some (.int .i64 yd)∧w'.cell? ⟨ya,2,none⟩=some (.slice yh qz.length yg)∧w'.cell? ⟨qp,0,none⟩=some (.int .i64 qi)∧w'.cell? ⟨qp,1,none⟩=some (.int .i64 qj)∧w'.cell? ⟨qp,2,none⟩=some (.slice Ao166 qs.length co166)) (ds:=[]) #[false,false,false,false] (by kernel_rfl) rfl rfl ⟨(Hq qh.out 0).trans rfl,(Hq qh.out 1).trans rfl,(Hq qh.out 2).trans rfl,(Hq qc.out 0).trans rfl,(Hq qc.out 1).trans rfl,(Hq qc.out 2).trans rfl⟩ (fun qx=>?_)
        generalize w159.drew=w160 at qb qa qe qg qh qc qu HK HB qx ⊢
        refine take_ (i:=0) (N:=some 100) (v:=?_) (a':=?_) #[true,false,false,false] rfl rfl (by kernel_rfl) (fun _ _ _ h=>h) (Or.inl ⟨by rfl,?_⟩) qx ?_ ?_
        rotate_left
        ·rintro w' ⟨s0,s1,s2,s3,s4,s5⟩
         go_simp
         with_reducible rfl
        rotate_left
        ·simp only [Act.put,List.setIfInBounds_toArray,List.set_cons_zero,List.set_cons_succ,i64_w,i32_w]
         rfl
        refine take_ (i:=1) (N:=some 101) (v:=?_) (a':=?_) #[true,true,false,false] rfl rfl (by kernel_rfl) (fun _ _ _ h=>h) (Or.inl ⟨by rfl,?_⟩) qx ?_ ?_
        rotate_left
        ·rintro w' ⟨s0,s1,s2,s3,s4,s5⟩
         go_simp
         with_reducible rfl
        rotate_left
        ·simp only [Act.put,List.setIfInBounds_toArray,List.set_cons_zero,List.set_cons_succ,i64_w,i32_w]
         rfl
        refine one_ (i:=2) (N:=none) #[true,true,true,false] rfl rfl (by kernel_rfl) (by decide) (fun K hK=>?_)
        have hs161:w160.cell? ⟨qd,0,none⟩=some (.int .i64 0):=(Hq qe.out 0).trans rfl
        have hfs161:=Hz qe.out 0
        have hns161_1:=qw.out
        have hns161_2:=qn.out
        have hns161_3:=qk.out
        have hms161_1:=qv.out
        have hms161_2:=yk.out
        have hms161_3:=yc.out
        have hs162:w160.cell? ⟨qd,1,none⟩=some (.int .i64 0):=(Hq qe.out 1).trans rfl
        have hfs162:=Hz qe.out 1
        have hns162_1:=qw.out
        have hns162_2:=qn.out
        have hns162_3:=qk.out
        have hms162_1:=qv.out
        have hms162_2:=yk.out
        have hms162_3:=yc.out
        have hs163:w160.cell? ⟨qd,2,none⟩=some (.slice none 0 0):=(Hq qe.out 2).trans rfl
        have hfs163:=Hz qe.out 2
        have hns163_1:=qw.out
        have hns163_2:=qn.out
        have hns163_3:=qk.out
        have hms163_1:=qv.out
        have hms163_2:=yk.out
        have hms163_3:=yc.out
        refine skip_ (w1:=?_) (by rfl) rfl ?_ ?_
        rotate_left
        ·go_simp
         rfl
        refine hK.out _ _ ⟨((Ho (p:=⟨qd,_,none⟩) qn.out _).trans (((Ho (p:=⟨qd,_,none⟩) qn.out _).trans (((Ho (p:=⟨qd,_,none⟩) qn.out _).trans (qx.1)))))),((Ho (p:=⟨qd,_,none⟩) qn.out _).trans (((Ho (p:=⟨qd,_,none⟩) qn.out _).trans (((Ho (p:=⟨qd,_,none⟩) qn.out _).trans (qx.2.1)))))),((Ho (p:=⟨qd,_,none⟩) qn.out _).trans (((Ho (p:=⟨qd,_,none⟩) qn.out _).trans (((Ho (p:=⟨qd,_,none⟩) qn.out _).trans (qx.2.2.1)))))),((Ho (p:=⟨qd,_,none⟩) qk.out _).trans (((Ho (p:=⟨qd,_,none⟩) qk.out _).trans (((Ho (p:=⟨qd,_,none⟩) qk.out _).trans (qx.2.2.2.1)))))),((Ho (p:=⟨qd,_,none⟩) qk.out _).trans (((Ho (p:=⟨qd,_,none⟩) qk.out _).trans (((Ho (p:=⟨qd,_,none⟩) qk.out _).trans (qx.2.2.2.2.1)))))),((Ho (p:=⟨qd,_,none⟩) qk.out _).trans (((Ho (p:=⟨qd,_,none⟩) qk.out _).trans (((Ho (p:=⟨qd,_,none⟩) qk.out _).trans (qx.2.2.2.2.2))))))⟩ (fun qx=>?_)
        clear hK K
        refine one_ (i:=3) (N:=none) #[true,true,true,true] rfl rfl (by kernel_rfl) (by decide) (fun K hK=>?_)
        have hs164:w160.cell? ⟨qf,0,none⟩=some (.int .i64 0):=(Hq qg.out 0).trans rfl
        have hfs164:=Hz qg.out 0
        have hns164_0:=qv.out
        have hns164_2:=qm.out
        have hns164_3:=ql.out
        have hms164_0:=qw.out
        have hms164_2:=ym.out
        have hms164_3:=yb.out
        have hs165:w160.cell? ⟨qf,1,none⟩=some (.int .i64 0):=(Hq qg.out 1).trans rfl
        have hfs165:=Hz qg.out 1
        have hns165_0:=qv.out
        have hns165_2:=qm.out
        have hns165_3:=ql.out
        have hms165_0:=qw.out
        have hms165_2:=ym.out
        have hms165_3:=yb.out
        have hs167:w160.cell? ⟨qf,2,none⟩=some (.slice none 0 0):=(Hq qg.out 2).trans rfl
        have hfs167:=Hz qg.out 2
        have hns167_0:=qv.out
        have hns167_2:=qm.out
        have hns167_3:=ql.out
        have hms167_0:=qw.out
        have hms167_2:=ym.out
        have hms167_3:=yb.out
        refine skip_ (w1:=?_) (by rfl) rfl ?_ ?_
        rotate_left
        ·go_simp
         rfl
        refine hK.out _ _ ⟨((Ho (p:=⟨qf,_,none⟩) qm.out _).trans (((Ho (p:=⟨qf,_,none⟩) qm.out _).trans (((Ho (p:=⟨qf,_,none⟩) qm.out _).trans (qx.1)))))),((Ho (p:=⟨qf,_,none⟩) qm.out _).trans (((Ho (p:=⟨qf,_,none⟩) qm.out _).trans (((Ho (p:=⟨qf,_,none⟩) qm.out _).trans (qx.2.1)))))),((Ho (p:=⟨qf,_,none⟩) qm.out _).trans (((Ho (p:=⟨qf,_,none⟩) qm.out _).trans (((Ho (p:=⟨qf,_,none⟩) qm.out _).trans (qx.2.2.1)))))),((Ho (p:=⟨qf,_,none⟩) ql.out _).trans (((Ho (p:=⟨qf,_,none⟩) ql.out _).trans (((Ho (p:=⟨qf,_,none⟩) ql.out _).trans (qx.2.2.2.1)))))),((Ho (p:=⟨qf,_,none⟩) ql.out _).trans (((Ho (p:=⟨qf,_,none⟩) ql.out _).trans (((Ho (p:=⟨qf,_,none⟩) ql.out _).trans (qx.2.2.2.2.1)))))),((Ho (p:=⟨qf,_,none⟩) ql.out _).trans (((Ho (p:=⟨qf,_,none⟩) ql.out _).trans (((Ho (p:=⟨qf,_,none⟩) ql.out _).trans (qx.2.2.2.2.2))))))⟩ (fun qx=>?_)
        clear hK K
        refine done_ (by kernel_rfl) ?_
        try go_wp2
        refine bodyPost_ret (results_cc rfl _ _ qd qf 27 27 #[.int .i64 ye,.int .i64 yd,.slice yh qz.length yg] #[.int .i64 qi,.int .i64 qj,.slice Ao166 qs.length co166] (0,0) (0,0) _ _ rfl (by(with_reducible repeat(first|refine Hk ?_ _|refine Hi ?_|refine Hj ?_ _));refine HE ?_ qv.out _;(with_reducible repeat(first|refine Hk ?_ _|refine Hi ?_|refine Hj ?_ _));refine HE ?_ qv.out _;(with_reducible repeat(first|refine Hk ?_ _|refine Hi ?_|refine Hj ?_ _));refine HE ?_ qv.out _;(with_reducible repeat(first|refine Hk ?_ _|refine Hi ?_|refine Hj ?_ _));refine HI (cs:=#[.int .i64 ye,.int .i64 yd,.slice none 0 0]) ?_ 2 _ rfl;(with_reducible repeat(first|refine Hk ?_ _|refine Hi ?_|refine Hj ?_ _));refine HI (cs:=#[.int .i64 ye,.int .i64 0,.slice none 0 0]) ?_ 1 _ rfl;(with_reducible repeat(first|refine Hk ?_ _|refine Hi ?_|refine Hj ?_ _));refine HI (cs:=#[.int .i64 0,.int .i64 0,.slice none 0 0]) ?_ 0 _ rfl;(with_reducible repeat(first|refine Hk ?_ _|refine Hi ?_|refine Hj ?_ _));exact qe.out) Try.underlying27 rfl (by kernel_rfl) rfl (by(with_reducible repeat(first|refine Hk ?_ _|refine Hi ?_|refine Hj ?_ _));refine HI (cs:=#[.int .i64 qi,.int .i64 qj,.slice none 0 0]) ?_ 2 _ rfl;(with_reducible repeat(first|refine Hk ?_ _|refine Hi ?_|refine Hj ?_ _));refine HI (cs:=#[.int .i64 qi,.int .i64 0,.slice none 0 0]) ?_ 1 _ rfl;(with_reducible repeat(first|refine Hk ?_ _|refine Hi ?_|refine Hj ?_ _));refine HI (cs:=#[.int .i64 0,.int .i64 0,.slice none 0 0]) ?_ 0 _ rfl;(with_reducible repeat(first|refine Hk ?_ _|refine Hi ?_|refine Hj ?_ _));refine HE ?_ qw.out _;(with_reducible repeat(first|refine Hk ?_ _|refine Hi ?_|refine Hj ?_ _));refine HE ?_ qw.out _;(with_reducible repeat(first|refine Hk ?_ _|refine Hi ?_|refine Hj ?_ _));refine HE ?_ qw.out _;(with_reducible repeat(first|refine Hk ?_ _|refine Hi ?_|refine Hj ?_ _));exact qg.out) Try.underlying27 rfl (by kernel_rfl)) rfl ?_
        exact⟨_,_,by first|rfl|(simp [errW_none,errW_some] <;> rfl)|(simp [*,errW_none,errW_some] <;> rfl),by(with_reducible repeat(first|apply Ht|apply Hs|apply Hn));exact HD (HC (p:=⟨qf,2,none⟩) (HC (p:=⟨qf,1,none⟩) (HC (p:=⟨qf,0,none⟩) (HC (p:=⟨qd,2,none⟩) (HC (p:=⟨qd,1,none⟩) (HC (p:=⟨qd,0,none⟩) (HJ (HJ qb.out qe.out (by decide)) qg.out (by decide)) (fun _ hk=>hk.1.2) (.int .i64 ye)) (fun _ hk=>hk.1.2) (.int .i64 yd)) (fun _ hk=>hk.1.2) (.slice yh qz.length yg)) (fun _ hk=>hk.2) (.int .i64 qi)) (fun _ hk=>hk.2) (.int .i64 qj)) (fun _ hk=>hk.2) (.slice Ao166 qs.length co166)) (fun _ hk=>hk.1.1),by(with_reducible repeat(first|apply Ht|apply Hs|apply Hn));exact HD (HC (p:=⟨qf,2,none⟩) (HC (p:=⟨qf,1,none⟩) (HC (p:=⟨qf,0,none⟩) (HC (p:=⟨qd,2,none⟩) (HC (p:=⟨qd,1,none⟩) (HC (p:=⟨qd,0,none⟩) (HJ (HJ qa.out qe.out (by decide)) qg.out (by decide)) (fun _ hk=>hk.1.2) (.int .i64 ye)) (fun _ hk=>hk.1.2) (.int .i64 yd)) (fun _ hk=>hk.1.2) (.slice yh qz.length yg)) (fun _ hk=>hk.2) (.int .i64 qi)) (fun _ hk=>hk.2) (.int .i64 qj)) (fun _ hk=>hk.2) (.slice Ao166 qs.length co166)) (fun _ hk=>hk.1.1),by repeat(first|(with_reducible first|exact qu.out|apply Hb|apply Hd|apply Hc|apply Hg|apply Hh|refine He ?_ qo.out _|refine He ?_ qq.out _|refine He ?_ qr.out _|refine He ?_ qt.out _)|exact qu.out),by repeat(first|(with_reducible first|exact HB.out|apply HF|apply Hv|apply Hy|refine Hl ?_ (Hf qu.out)|refine Hl ?_ yo.out|refine Hl ?_ yq.out|refine Hl ?_ za.out|refine Hl ?_ ze.out)|exact HB.out),by repeat(first|(with_reducible first|exact HK.out|apply Hu|apply Hx|apply Hp|apply Hw|refine Hm ?_ yf.out _|refine Hm ?_ yi.out _|refine Hm ?_ yn.out _|refine Hm ?_ yp.out _)|exact HK.out)⟩
   ·replace c70:=Bool.eq_false_iff.mpr c70
    subst c70
    have H1:(some (ye,yd,qz,qi,qj,qs,vb,vd))=some (r1,r2,r3,r4,r5,r6,r7,r8):=by rw [if_neg (show ¬ (false=true) by decide)] at H;exact H
    clear H
    have H:=H1
    clear H1
    simp only [Option.some.injEq,Prod.mk.injEq] at H
    obtain⟨rfl,rfl,rfl,rfl,rfl,rfl,rfl,rfl⟩:=H
    try go_wp2_with (first|((with_reducible refine HN (f:=64) rfl ?_);refine goesL_ (some 67) rfl rfl Try.func64 (by kernel_rfl) rfl #[.pointer (some ⟨g,0,none⟩),.int .i64 20] rfl (by(try simp only [List.map_toArray,List.map_cons,List.map_nil]);first|done|rfl|(simp only [List.length_drop,List.length_take];rfl)) ?_;(with_reducible refine(spec_l1Once.calls g s0_0 zj zi 20 false vb vd w0 _ ?side1 ?side2 A69.out).mono ?_);(case side1=>repeat(first|(with_reducible first|exact qu.out|apply Hb|apply Hd|apply Hc|apply Hg|apply Hh|refine He ?_ qo.out _|refine He ?_ qq.out _|refine He ?_ qr.out _|refine He ?_ qt.out _)|exact qu.out));(case side2=>repeat(first|(with_reducible first|exact HB.out|apply HF|apply Hv|apply Hy|refine Hl ?_ (Hf qu.out)|refine Hl ?_ yo.out|refine Hl ?_ yq.out|refine Hl ?_ za.out|refine Hl ?_ ze.out)|exact HB.out));rintro e w168 ⟨rfl,hi,hb,hk⟩;refine⟨_,rfl,?_⟩;have yt:=Ha (HD (HM (IsS84.apartQ (show IsS84 w0 _ g s0_0 zj zi from by repeat(first|(with_reducible first|exact qu.out|apply Hb|apply Hd|apply Hc|apply Hg|apply Hh|refine He ?_ qo.out _|refine He ?_ qq.out _|refine He ?_ qr.out _|refine He ?_ qt.out _)|exact qu.out)) (by(with_reducible repeat(first|apply Ht|apply Hs|apply Hn));exact qb.out) (by decide)) hk (fun _ h=>h.2)) (fun _ h=>h.1));have yv:=Ha (HD (HM (IsS84.apartQ (show IsS84 w0 _ g s0_0 zj zi from by repeat(first|(with_reducible first|exact qu.out|apply Hb|apply Hd|apply Hc|apply Hg|apply Hh|refine He ?_ qo.out _|refine He ?_ qq.out _|refine He ?_ qr.out _|refine He ?_ qt.out _)|exact qu.out)) (by(with_reducible repeat(first|apply Ht|apply Hs|apply Hn));exact qa.out) (by decide)) hk (fun _ h=>h.2)) (fun _ h=>h.1));have ys:=Ha (Hr hk (g':=qd) (o:=.cells #[.int .i64 0,.int .i64 0,.slice none 0 0] 27 (0,0)) (by(with_reducible repeat(first|refine Hk ?_ _|refine Hi ?_|refine Hj ?_ _));exact qe.out) zf.out (by simp));have yw:=Ha (Hr hk (g':=qf) (o:=.cells #[.int .i64 0,.int .i64 0,.slice none 0 0] 27 (0,0)) (by(with_reducible repeat(first|refine Hk ?_ _|refine Hi ?_|refine Hj ?_ _));exact qg.out) zg.out (by simp));have yu:=Ha (Hr hk (g':=ya) (o:=.cells #[.int .i64 ye,.int .i64 yd,.slice yh qz.length yg] 27 (0,0)) (by(with_reducible repeat(first|refine Hk ?_ _|refine Hi ?_|refine Hj ?_ _));exact qh.out) zh.out (by simp));have yx:=Ha (Hr hk (g':=qp) (o:=.cells #[.int .i64 qi,.int .i64 qj,qy] 27 (0,0)) (by(with_reducible repeat(first|refine Hk ?_ _|refine Hi ?_|refine Hj ?_ _));exact qc.out) zc.out (by simp));have yy:=Ha (HG (by repeat(first|(with_reducible first|exact HK.out|apply Hu|apply Hx|apply Hp|apply Hw|refine Hm ?_ yf.out _|refine Hm ?_ yi.out _|refine Hm ?_ yn.out _|refine Hm ?_ yp.out _)|exact HK.out)) hk (.inl rfl));have yz:=Ha (hb);have zd:=Ha (hi);clear qb;clear qa;clear qe;clear qg;clear qh;clear qc;clear HK;clear HB;clear qu;have qb:=yt;have qa:=yv;have qe:=ys;have qg:=yw;have qh:=yu;have qc:=yx;have HK:=yy;have HB:=yz;have qu:=zd;clear yt yv ys yw yu yx yy yz zd;(try clear hb);(try clear hb2);(try clear hk);(try clear hi)))
    have yt:=Ha (Hn qb.out)
    have yv:=Ha (Hn qa.out)
    have ys:=Ha (Hi qe.out)
    have yw:=Ha (Hi qg.out)
    have yu:=Ha (Hi qh.out)
    have yx:=Ha (Hi qc.out)
    have yy:=Ha (Hc qu.out)
    have yz:=Ha (Hp HK.out)
    have zd:=Ha (Hy HB.out)
    clear qb
    clear qa
    clear qe
    clear qg
    clear qh
    clear qc
    clear qu
    clear HK
    clear HB
    have qb:=yt
    have qa:=yv
    have qe:=ys
    have qg:=yw
    have qh:=yu
    have qc:=yx
    have qu:=yy
    have HK:=yz
    have HB:=zd
    clear yt yv ys yw yu yx yy yz zd
    obtain⟨Ao175,co175,eo175,_⟩:=Kd.Q_slice qa.out
    (first|subst eo175|(injection eo175 with f1_ f2_ f3_;have f4_:=f1_.symm;have f5_:=f3_.symm;clear f1_ f2_ f3_;subst f4_;subst f5_))
    refine start_ (n:=4) (S:=fun w'=>w'.cell? ⟨ya,0,none⟩=some (.int .i64 ye)∧w'.cell? ⟨ya,1,none⟩=some (.int .i64 yd)∧w'.cell? ⟨ya,2,none⟩=some (.slice yh qz.length yg)∧w'.cell? ⟨qp,0,none⟩=some (.int .i64 qi)∧w'.cell? ⟨qp,1,none⟩=some (.int .i64 qj)∧w'.cell? ⟨qp,2,none⟩=some (.slice Ao175 qs.length co175)) (ds:=[]) #[false,false,false,false] (by kernel_rfl) rfl rfl ⟨(Hq qh.out 0).trans rfl,(Hq qh.out 1).trans rfl,(Hq qh.out 2).trans rfl,(Hq qc.out 0).trans rfl,(Hq qc.out 1).trans rfl,(Hq qc.out 2).trans rfl⟩ (fun qx=>?_)
    generalize w168.drew=w169 at qb qa qe qg qh qc qu HK HB qx ⊢
    refine take_ (i:=0) (N:=some 100) (v:=?_) (a':=?_) #[true,false,false,false] rfl rfl (by kernel_rfl) (fun _ _ _ h=>h) (Or.inl ⟨by rfl,?_⟩) qx ?_ ?_
    rotate_left
    ·rintro w' ⟨s0,s1,s2,s3,s4,s5⟩
     go_simp
     with_reducible rfl
    rotate_left
    ·simp only [Act.put,List.setIfInBounds_toArray,List.set_cons_zero,List.set_cons_succ,i64_w,i32_w]
     rfl
    refine take_ (i:=1) (N:=some 101) (v:=?_) (a':=?_) #[true,true,false,false] rfl rfl (by kernel_rfl) (fun _ _ _ h=>h) (Or.inl ⟨by rfl,?_⟩) qx ?_ ?_
    rotate_left
    ·rintro w' ⟨s0,s1,s2,s3,s4,s5⟩
     go_simp
     with_reducible rfl
    rotate_left
    ·simp only [Act.put,List.setIfInBounds_toArray,List.set_cons_zero,List.set_cons_succ,i64_w,i32_w]
     rfl
    refine one_ (i:=2) (N:=none) #[true,true,true,false] rfl rfl (by kernel_rfl) (by decide) (fun K hK=>?_)
    have hs170:w169.cell? ⟨qd,0,none⟩=some (.int .i64 0):=(Hq qe.out 0).trans rfl
    have hfs170:=Hz qe.out 0
    have hns170_1:=qw.out
    have hns170_2:=qn.out
    have hns170_3:=qk.out
    have hms170_1:=qv.out
    have hms170_2:=yk.out
    have hms170_3:=yc.out
    have hs171:w169.cell? ⟨qd,1,none⟩=some (.int .i64 0):=(Hq qe.out 1).trans rfl
    have hfs171:=Hz qe.out 1
    have hns171_1:=qw.out
    have hns171_2:=qn.out
    have hns171_3:=qk.out
    have hms171_1:=qv.out
    have hms171_2:=yk.out
    have hms171_3:=yc.out
    have hs172:w169.cell? ⟨qd,2,none⟩=some (.slice none 0 0):=(Hq qe.out 2).trans rfl
    have hfs172:=Hz qe.out 2
    have hns172_1:=qw.out
    have hns172_2:=qn.out
    have hns172_3:=qk.out
    have hms172_1:=qv.out
    have hms172_2:=yk.out
    have hms172_3:=yc.out
    refine skip_ (w1:=?_) (by rfl) rfl ?_ ?_
    rotate_left
    ·go_simp
     rfl
    refine hK.out _ _ ⟨((Ho (p:=⟨qd,_,none⟩) qn.out _).trans (((Ho (p:=⟨qd,_,none⟩) qn.out _).trans (((Ho (p:=⟨qd,_,none⟩) qn.out _).trans (qx.1)))))),((Ho (p:=⟨qd,_,none⟩) qn.out _).trans (((Ho (p:=⟨qd,_,none⟩) qn.out _).trans (((Ho (p:=⟨qd,_,none⟩) qn.out _).trans (qx.2.1)))))),((Ho (p:=⟨qd,_,none⟩) qn.out _).trans (((Ho (p:=⟨qd,_,none⟩) qn.out _).trans (((Ho (p:=⟨qd,_,none⟩) qn.out _).trans (qx.2.2.1)))))),((Ho (p:=⟨qd,_,none⟩) qk.out _).trans (((Ho (p:=⟨qd,_,none⟩) qk.out _).trans (((Ho (p:=⟨qd,_,none⟩) qk.out _).trans (qx.2.2.2.1)))))),((Ho (p:=⟨qd,_,none⟩) qk.out _).trans (((Ho (p:=⟨qd,_,none⟩) qk.out _).trans (((Ho (p:=⟨qd,_,none⟩) qk.out _).trans (qx.2.2.2.2.1)))))),((Ho (p:=⟨qd,_,none⟩) qk.out _).trans (((Ho (p:=⟨qd,_,none⟩) qk.out _).trans (((Ho (p:=⟨qd,_,none⟩) qk.out _).trans (qx.2.2.2.2.2))))))⟩ (fun qx=>?_)
    clear hK K
    refine one_ (i:=3) (N:=none) #[true,true,true,true] rfl rfl (by kernel_rfl) (by decide) (fun K hK=>?_)
    have hs173:w169.cell? ⟨qf,0,none⟩=some (.int .i64 0):=(Hq qg.out 0).trans rfl
    have hfs173:=Hz qg.out 0
    have hns173_0:=qv.out
    have hns173_2:=qm.out
    have hns173_3:=ql.out
    have hms173_0:=qw.out
    have hms173_2:=ym.out
    have hms173_3:=yb.out
    have hs174:w169.cell? ⟨qf,1,none⟩=some (.int .i64 0):=(Hq qg.out 1).trans rfl
    have hfs174:=Hz qg.out 1
    have hns174_0:=qv.out
    have hns174_2:=qm.out
    have hns174_3:=ql.out
    have hms174_0:=qw.out
    have hms174_2:=ym.out
    have hms174_3:=yb.out
    have hs176:w169.cell? ⟨qf,2,none⟩=some (.slice none 0 0):=(Hq qg.out 2).trans rfl
    have hfs176:=Hz qg.out 2
    have hns176_0:=qv.out
    have hns176_2:=qm.out
    have hns176_3:=ql.out
    have hms176_0:=qw.out
    have hms176_2:=ym.out
    have hms176_3:=yb.out
    refine skip_ (w1:=?_) (by rfl) rfl ?_ ?_
    rotate_left
    ·go_simp
     rfl
    refine hK.out _ _ ⟨((Ho (p:=⟨qf,_,none⟩) qm.out _).trans (((Ho (p:=⟨qf,_,none⟩) qm.out _).trans (((Ho (p:=⟨qf,_,none⟩) qm.out _).trans (qx.1)))))),((Ho (p:=⟨qf,_,none⟩) qm.out _).trans (((Ho (p:=⟨qf,_,none⟩) qm.out _).trans (((Ho (p:=⟨qf,_,none⟩) qm.out _).trans (qx.2.1)))))),((Ho (p:=⟨qf,_,none⟩) qm.out _).trans (((Ho (p:=⟨qf,_,none⟩) qm.out _).trans (((Ho (p:=⟨qf,_,none⟩) qm.out _).trans (qx.2.2.1)))))),((Ho (p:=⟨qf,_,none⟩) ql.out _).trans (((Ho (p:=⟨qf,_,none⟩) ql.out _).trans (((Ho (p:=⟨qf,_,none⟩) ql.out _).trans (qx.2.2.2.1)))))),((Ho (p:=⟨qf,_,none⟩) ql.out _).trans (((Ho (p:=⟨qf,_,none⟩) ql.out _).trans (((Ho (p:=⟨qf,_,none⟩) ql.out _).trans (qx.2.2.2.2.1)))))),((Ho (p:=⟨qf,_,none⟩) ql.out _).trans (((Ho (p:=⟨qf,_,none⟩) ql.out _).trans (((Ho (p:=⟨qf,_,none⟩) ql.out _).trans (qx.2.2.2.2.2))))))⟩ (fun qx=>?_)
    clear hK K
    refine done_ (by kernel_rfl) ?_
    try go_wp2
    refine bodyPost_ret (results_cc rfl _ _ qd qf 27 27 #[.int .i64 ye,.int .i64 yd,.slice yh qz.length yg] #[.int .i64 qi,.int .i64 qj,.slice Ao175 qs.length co175] (0,0) (0,0) _ _ rfl (by(with_reducible repeat(first|refine Hk ?_ _|refine Hi ?_|refine Hj ?_ _));refine HE ?_ qv.out _;(with_reducible repeat(first|refine Hk ?_ _|refine Hi ?_|refine Hj ?_ _));refine HE ?_ qv.out _;(with_reducible repeat(first|refine Hk ?_ _|refine Hi ?_|refine Hj ?_ _));refine HE ?_ qv.out _;(with_reducible repeat(first|refine Hk ?_ _|refine Hi ?_|refine Hj ?_ _));refine HI (cs:=#[.int .i64 ye,.int .i64 yd,.slice none 0 0]) ?_ 2 _ rfl;(with_reducible repeat(first|refine Hk ?_ _|refine Hi ?_|refine Hj ?_ _));refine HI (cs:=#[.int .i64 ye,.int .i64 0,.slice none 0 0]) ?_ 1 _ rfl;(with_reducible repeat(first|refine Hk ?_ _|refine Hi ?_|refine Hj ?_ _));refine HI (cs:=#[.int .i64 0,.int .i64 0,.slice none 0 0]) ?_ 0 _ rfl;(with_reducible repeat(first|refine Hk ?_ _|refine Hi ?_|refine Hj ?_ _));exact qe.out) Try.underlying27 rfl (by kernel_rfl) rfl (by(with_reducible repeat(first|refine Hk ?_ _|refine Hi ?_|refine Hj ?_ _));refine HI (cs:=#[.int .i64 qi,.int .i64 qj,.slice none 0 0]) ?_ 2 _ rfl;(with_reducible repeat(first|refine Hk ?_ _|refine Hi ?_|refine Hj ?_ _));refine HI (cs:=#[.int .i64 qi,.int .i64 0,.slice none 0 0]) ?_ 1 _ rfl;(with_reducible repeat(first|refine Hk ?_ _|refine Hi ?_|refine Hj ?_ _));refine HI (cs:=#[.int .i64 0,.int .i64 0,.slice none 0 0]) ?_ 0 _ rfl;(with_reducible repeat(first|refine Hk ?_ _|refine Hi ?_|refine Hj ?_ _));refine HE ?_ qw.out _;(with_reducible repeat(first|refine Hk ?_ _|refine Hi ?_|refine Hj ?_ _));refine HE ?_ qw.out _;(with_reducible repeat(first|refine Hk ?_ _|refine Hi ?_|refine Hj ?_ _));refine HE ?_ qw.out _;(with_reducible repeat(first|refine Hk ?_ _|refine Hi ?_|refine Hj ?_ _));exact qg.out) Try.underlying27 rfl (by kernel_rfl)) rfl ?_
    exact⟨_,_,by first|rfl|(simp [errW_none,errW_some] <;> rfl)|(simp [*,errW_none,errW_some] <;> rfl),by(with_reducible repeat(first|apply Ht|apply Hs|apply Hn));exact HD (HC (p:=⟨qf,2,none⟩) (HC (p:=⟨qf,1,none⟩) (HC (p:=⟨qf,0,none⟩) (HC (p:=⟨qd,2,none⟩) (HC (p:=⟨qd,1,none⟩) (HC (p:=⟨qd,0,none⟩) (HJ (HJ qb.out qe.out (by decide)) qg.out (by decide)) (fun _ hk=>hk.1.2) (.int .i64 ye)) (fun _ hk=>hk.1.2) (.int .i64 yd)) (fun _ hk=>hk.1.2) (.slice yh qz.length yg)) (fun _ hk=>hk.2) (.int .i64 qi)) (fun _ hk=>hk.2) (.int .i64 qj)) (fun _ hk=>hk.2) (.slice Ao175 qs.length co175)) (fun _ hk=>hk.1.1),by(with_reducible repeat(first|apply Ht|apply Hs|apply Hn));exact HD (HC (p:=⟨qf,2,none⟩) (HC (p:=⟨qf,1,none⟩) (HC (p:=⟨qf,0,none⟩) (HC (p:=⟨qd,2,none⟩) (HC (p:=⟨qd,1,none⟩) (HC (p:=⟨qd,0,none⟩) (HJ (HJ qa.out qe.out (by decide)) qg.out (by decide)) (fun _ hk=>hk.1.2) (.int .i64 ye)) (fun _ hk=>hk.1.2) (.int .i64 yd)) (fun _ hk=>hk.1.2) (.slice yh qz.length yg)) (fun _ hk=>hk.2) (.int .i64 qi)) (fun _ hk=>hk.2) (.int .i64 qj)) (fun _ hk=>hk.2) (.slice Ao175 qs.length co175)) (fun _ hk=>hk.1.1),by repeat(first|(with_reducible first|exact qu.out|apply Hb|apply Hd|apply Hc|apply Hg|apply Hh|refine He ?_ qo.out _|refine He ?_ qq.out _|refine He ?_ qr.out _|refine He ?_ qt.out _)|exact qu.out),by repeat(first|(with_reducible first|exact HB.out|apply HF|apply Hv|apply Hy|refine Hl ?_ (Hf qu.out)|refine Hl ?_ yo.out|refine Hl ?_ yq.out|refine Hl ?_ za.out|refine Hl ?_ ze.out)|exact HB.out),by repeat(first|(with_reducible first|exact HK.out|apply Hu|apply Hx|apply Hp|apply Hw|refine Hm ?_ yf.out _|refine Hm ?_ yi.out _|refine Hm ?_ yn.out _|refine Hm ?_ yp.out _)|exact HK.out)⟩

end Go.Proofs.Ytbdnpfjjaokdbaa.HFnMotion
