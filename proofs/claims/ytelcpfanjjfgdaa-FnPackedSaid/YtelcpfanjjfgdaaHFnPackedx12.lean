-- Laid by myprint.py, a program of this repo, out of the kit's printer and this repo's own texts (wip/hand).
import Derived.Test.YtelcpfanjjfgdaaHFnPackedx0
import Derived.Test.YtelcpfanjjfgdaaHFnPackedx9
import Derived.Test.YtelcpfanjjfgdaaHFnPackedx10
import Derived.Test.YtelcpfanjjfgdaaHFnPackedx11
namespace Go.Proofs.Ytelcpfanjjfgdaa.HFnPacked
open Go.RowKit Go.Proofs.YtelcpfanjjfgdaaW.PrintWords Go.Proofs.YtelcpfanjjfgdaaW.PrintLast Go.Proofs.YtelcpfanjjfgdaaW.PrintMore
attribute [local go_sem] max2_int min2_int max_two min_two max_three min_three max_four min_four   -- for this text's walks alone
set_option linter.unusedVariables false
set_option linter.unusedSimpArgs false
theorem Ma : type_of% @Aside0.mk := @Aside0.mk
theorem Mb : type_of% @Kd.R_drew := @Kd.R_drew
theorem Mc : type_of% @add_block := @add_block
theorem Md : type_of% @pw_below_drewN := @pw_below_drewN
theorem Me : type_of% @below_drew1 := @below_drew1
theorem Mf : type_of% @below_alloc := @below_alloc
theorem Mg : type_of% @blk_drew := @blk_drew
theorem Mh : type_of% @any_of := @any_of
theorem Mi : type_of% @Kd.R_alloc := @Kd.R_alloc
theorem Mj : type_of% @Kd.R_drewN := @Kd.R_drewN

/-! ### spec_Pack: function 51 -/
mutual
def spec_Pack.j0 : Nat → List ByteArray → List (List Int) → List (S71) → Bool → Option ((List (S71)) × Bool)
 | 0, _, _, _, _ => none
 | k + 1, x0, x1, x6, x20 => if x20 = true then (some (x6, false)) else (spec_Pack.l0 k x0 x1 x6 0)
def spec_Pack.l0 : Nat → List ByteArray → List (List Int) → List (S71) → Int → Option ((List (S71)) × Bool)
 | 0, _, _, _, _ => none
 | k + 1, x0, x1, x6, x7 => if x7 < (x0.length : Int) then (if 0 ≤ x7 then ((spec_l15Name.f k (rdOf ByteArray.empty x0 x7)).bind fun t325 => (if t325 = true then (if x7 < (x1.length : Int) then (spec_Pack.j2 k x0 x1 x6 x7 (decide (((rd_L5 x1 x7).length : Int) > 40000))) else (none)) else (spec_Pack.j2 k x0 x1 x6 x7 true))) else (none)) else (some (x6, true))
def spec_Pack.j2 : Nat → List ByteArray → List (List Int) → List (S71) → Int → Bool → Option ((List (S71)) × Bool)
 | 0, _, _, _, _, _ => none
 | k + 1, x0, x1, x6, x7, x41 => if x41 = true then (some ((([] : List (S71))), false)) else (if 0 ≤ x7 then (if x7 < (x0.length : Int) then (if x7 < (x1.length : Int) then ((spec_Digest.f k (rd_L5 x1 x7)).bind fun qv => (if x6.length < 4398046511104 then (spec_Pack.l1 k x0 x1 (x6 ++ [(⟨rdOf ByteArray.empty x0 x7, ((rd_L5 x1 x7).length : Int), qv⟩ : S71)]) x7 (x6.length : Int) (rdOf ByteArray.empty x0 x7) ((rd_L5 x1 x7).length : Int) qv) else (none))) else (none)) else (none)) else (none))
def spec_Pack.l1 : Nat → List ByteArray → List (List Int) → List (S71) → Int → Int → ByteArray → Int → Int → Option ((List (S71)) × Bool)
 | 0, _, _, _, _, _, _, _, _ => none
 | k + 1, x0, x1, x6, x7, x9, x335000, x335001, x335002 => if x9 > 0 then (if 0 ≤ (wrap64 (x9 - 1)) then (if (wrap64 (x9 - 1)) < (x6.length : Int) then ((spec_l15Before.f k ((rd_T71 x6 (wrap64 (x9 - 1))).f0) x335000).bind fun t339 => (spec_Pack.j4 k x0 x1 x6 x7 x9 (!t339) x335000 x335001 x335002)) else (none)) else (none)) else (spec_Pack.j4 k x0 x1 x6 x7 x9 false x335000 x335001 x335002)
def spec_Pack.j4 : Nat → List ByteArray → List (List Int) → List (S71) → Int → Int → Bool → ByteArray → Int → Int → Option ((List (S71)) × Bool)
 | 0, _, _, _, _, _, _, _, _, _ => none
 | k + 1, x0, x1, x6, x7, x9, x77, x335000, x335001, x335002 => if x77 = true then (if 0 ≤ (wrap64 (x9 - 1)) then (if (wrap64 (x9 - 1)) < (x6.length : Int) then (if ((rd_T71 x6 (wrap64 (x9 - 1))).f0).toList = x335000.toList then (some ((([] : List (S71))), false)) else (if 0 ≤ x9 then (if x9 < (x6.length : Int) then (spec_Pack.l1 k x0 x1 (x6.set (x9 : Int).toNat (⟨(rd_T71 x6 (wrap64 (x9 - 1))).f0, (rd_T71 x6 (wrap64 (x9 - 1))).f1, (rd_T71 x6 (wrap64 (x9 - 1))).f2⟩ : S71)) x7 (wrap64 (x9 - 1)) x335000 x335001 x335002) else (none)) else (none))) else (none)) else (none)) else (if 0 ≤ x9 then (if x9 < (x6.length : Int) then (spec_Pack.l0 k x0 x1 (x6.set (x9 : Int).toNat (⟨x335000, x335001, x335002⟩ : S71)) (wrap64 (x7 + 1))) else (none)) else (none))
end
def spec_Pack.f (k : Nat) (l0 : List ByteArray) (l1 : List (List Int)) : Option ((List (S71)) × Bool) := (some (([] : List (S71)) : List (S71))).bind fun yh => (if (l0.length : Int) = (l1.length : Int) then (spec_Pack.j0 k l0 l1 yh (decide ((l0.length : Int) > 100))) else (spec_Pack.j0 k l0 l1 yh true))
theorem spec_Pack.mono_l : ∀ k, (∀ y0 y1 y2 y3, LeO (spec_Pack.j0 k y0 y1 y2 y3) (spec_Pack.j0 (k + 1) y0 y1 y2 y3)) ∧ (∀ y0 y1 y2 y3, LeO (spec_Pack.l0 k y0 y1 y2 y3) (spec_Pack.l0 (k + 1) y0 y1 y2 y3)) ∧ (∀ y0 y1 y2 y3 y4, LeO (spec_Pack.j2 k y0 y1 y2 y3 y4) (spec_Pack.j2 (k + 1) y0 y1 y2 y3 y4)) ∧ (∀ y0 y1 y2 y3 y4 y5 y6 y7, LeO (spec_Pack.l1 k y0 y1 y2 y3 y4 y5 y6 y7) (spec_Pack.l1 (k + 1) y0 y1 y2 y3 y4 y5 y6 y7)) ∧ (∀ y0 y1 y2 y3 y4 y5 y6 y7 y8, LeO (spec_Pack.j4 k y0 y1 y2 y3 y4 y5 y6 y7 y8) (spec_Pack.j4 (k + 1) y0 y1 y2 y3 y4 y5 y6 y7 y8))
 | 0 => ⟨fun _ _ _ _ r h => by simp [spec_Pack.j0] at h, fun _ _ _ _ r h => by simp [spec_Pack.l0] at h, fun _ _ _ _ _ r h => by simp [spec_Pack.j2] at h, fun _ _ _ _ _ _ _ _ r h => by simp [spec_Pack.l1] at h, fun _ _ _ _ _ _ _ _ _ r h => by simp [spec_Pack.j4] at h⟩
 | k + 1 => by
  obtain⟨ih0,ih1,ih2,ih3,ih4⟩:=spec_Pack.mono_l k
  refine⟨?_,?_,?_,?_,?_⟩
  ·intro y0 y1 y2 y3
   unfold spec_Pack.j0
   repeat' first
   | (with_reducible exact ih0 _ _ _ _)
   | (with_reducible exact ih1 _ _ _ _)
   | (with_reducible exact ih2 _ _ _ _ _)
   | (with_reducible exact ih3 _ _ _ _ _ _ _ _)
   | (with_reducible exact ih4 _ _ _ _ _ _ _ _ _)
   | (with_reducible exact spec_Digest.mono _ _)
   | (with_reducible exact spec_l15Before.mono _ _ _)
   | (with_reducible exact spec_l15Name.mono _ _)
   | (with_reducible exact LeO.refl _)
   | (with_reducible exact LeO.none _)
   | (with_reducible refine LeO.ite ?_ ?_)
   | (with_reducible refine LeO.bind ?_ (fun _ => ?_))
   | exact ih0 _ _ _ _
   | exact ih1 _ _ _ _
   | exact ih2 _ _ _ _ _
   | exact ih3 _ _ _ _ _ _ _ _
   | exact ih4 _ _ _ _ _ _ _ _ _
   | exact spec_Digest.mono _ _
   | exact spec_l15Before.mono _ _ _
   | exact spec_l15Name.mono _ _
   | exact LeO.none _
   | refine LeO.ite ?_ ?_
   | refine LeO.bind ?_ (fun _ => ?_)
  ·intro y0 y1 y2 y3
   unfold spec_Pack.l0
   repeat' first
   | (with_reducible exact ih0 _ _ _ _)
   | (with_reducible exact ih1 _ _ _ _)
   | (with_reducible exact ih2 _ _ _ _ _)
   | (with_reducible exact ih3 _ _ _ _ _ _ _ _)
   | (with_reducible exact ih4 _ _ _ _ _ _ _ _ _)
   | (with_reducible exact spec_Digest.mono _ _)
   | (with_reducible exact spec_l15Before.mono _ _ _)
   | (with_reducible exact spec_l15Name.mono _ _)
   | (with_reducible exact LeO.refl _)
   | (with_reducible exact LeO.none _)
   | (with_reducible refine LeO.ite ?_ ?_)
   | (with_reducible refine LeO.bind ?_ (fun _ => ?_))
   | exact ih0 _ _ _ _
   | exact ih1 _ _ _ _
   | exact ih2 _ _ _ _ _
   | exact ih3 _ _ _ _ _ _ _ _
   | exact ih4 _ _ _ _ _ _ _ _ _
   | exact spec_Digest.mono _ _
   | exact spec_l15Before.mono _ _ _
   | exact spec_l15Name.mono _ _
   | exact LeO.none _
   | refine LeO.ite ?_ ?_
   | refine LeO.bind ?_ (fun _ => ?_)
  ·intro y0 y1 y2 y3 y4
   unfold spec_Pack.j2
   repeat' first
   | (with_reducible exact ih0 _ _ _ _)
   | (with_reducible exact ih1 _ _ _ _)
   | (with_reducible exact ih2 _ _ _ _ _)
   | (with_reducible exact ih3 _ _ _ _ _ _ _ _)
   | (with_reducible exact ih4 _ _ _ _ _ _ _ _ _)
   | (with_reducible exact spec_Digest.mono _ _)
   | (with_reducible exact spec_l15Before.mono _ _ _)
   | (with_reducible exact spec_l15Name.mono _ _)
   | (with_reducible exact LeO.refl _)
   | (with_reducible exact LeO.none _)
   | (with_reducible refine LeO.ite ?_ ?_)
   | (with_reducible refine LeO.bind ?_ (fun _ => ?_))
   | exact ih0 _ _ _ _
   | exact ih1 _ _ _ _
   | exact ih2 _ _ _ _ _
   | exact ih3 _ _ _ _ _ _ _ _
   | exact ih4 _ _ _ _ _ _ _ _ _
   | exact spec_Digest.mono _ _
   | exact spec_l15Before.mono _ _ _
   | exact spec_l15Name.mono _ _
   | exact LeO.none _
   | refine LeO.ite ?_ ?_
   | refine LeO.bind ?_ (fun _ => ?_)
  ·intro y0 y1 y2 y3 y4 y5 y6 y7
   unfold spec_Pack.l1
   repeat' first
   | (with_reducible exact ih0 _ _ _ _)
   | (with_reducible exact ih1 _ _ _ _)
   | (with_reducible exact ih2 _ _ _ _ _)
   | (with_reducible exact ih3 _ _ _ _ _ _ _ _)
   | (with_reducible exact ih4 _ _ _ _ _ _ _ _ _)
   | (with_reducible exact spec_Digest.mono _ _)
   | (with_reducible exact spec_l15Before.mono _ _ _)
   | (with_reducible exact spec_l15Name.mono _ _)
   | (with_reducible exact LeO.refl _)
   | (with_reducible exact LeO.none _)
   | (with_reducible refine LeO.ite ?_ ?_)
   | (with_reducible refine LeO.bind ?_ (fun _ => ?_))
   | exact ih0 _ _ _ _
   | exact ih1 _ _ _ _
   | exact ih2 _ _ _ _ _
   | exact ih3 _ _ _ _ _ _ _ _
   | exact ih4 _ _ _ _ _ _ _ _ _
   | exact spec_Digest.mono _ _
   | exact spec_l15Before.mono _ _ _
   | exact spec_l15Name.mono _ _
   | exact LeO.none _
   | refine LeO.ite ?_ ?_
   | refine LeO.bind ?_ (fun _ => ?_)
  ·intro y0 y1 y2 y3 y4 y5 y6 y7 y8
   unfold spec_Pack.j4
   repeat' first
   | (with_reducible exact ih0 _ _ _ _)
   | (with_reducible exact ih1 _ _ _ _)
   | (with_reducible exact ih2 _ _ _ _ _)
   | (with_reducible exact ih3 _ _ _ _ _ _ _ _)
   | (with_reducible exact ih4 _ _ _ _ _ _ _ _ _)
   | (with_reducible exact spec_Digest.mono _ _)
   | (with_reducible exact spec_l15Before.mono _ _ _)
   | (with_reducible exact spec_l15Name.mono _ _)
   | (with_reducible exact LeO.refl _)
   | (with_reducible exact LeO.none _)
   | (with_reducible refine LeO.ite ?_ ?_)
   | (with_reducible refine LeO.bind ?_ (fun _ => ?_))
   | exact ih0 _ _ _ _
   | exact ih1 _ _ _ _
   | exact ih2 _ _ _ _ _
   | exact ih3 _ _ _ _ _ _ _ _
   | exact ih4 _ _ _ _ _ _ _ _ _
   | exact spec_Digest.mono _ _
   | exact spec_l15Before.mono _ _ _
   | exact spec_l15Name.mono _ _
   | exact LeO.none _
   | refine LeO.ite ?_ ?_
   | refine LeO.bind ?_ (fun _ => ?_)
theorem spec_Pack.mono : ∀ a0 a1 k, LeO (spec_Pack.f k a0 a1) (spec_Pack.f (k + 1) a0 a1) := by
 intro a0 a1 k
 obtain⟨ih0,ih1,ih2,ih3,ih4⟩:=spec_Pack.mono_l k
 unfold spec_Pack.f
 repeat' first
   | (with_reducible exact ih0 _ _ _ _)
   | (with_reducible exact ih1 _ _ _ _)
   | (with_reducible exact ih2 _ _ _ _ _)
   | (with_reducible exact ih3 _ _ _ _ _ _ _ _)
   | (with_reducible exact ih4 _ _ _ _ _ _ _ _ _)
   | (with_reducible exact spec_Digest.mono _ _)
   | (with_reducible exact spec_l15Before.mono _ _ _)
   | (with_reducible exact spec_l15Name.mono _ _)
   | (with_reducible exact LeO.refl _)
   | (with_reducible exact LeO.none _)
   | (with_reducible refine LeO.ite ?_ ?_)
   | (with_reducible refine LeO.bind ?_ (fun _ => ?_))
   | exact ih0 _ _ _ _
   | exact ih1 _ _ _ _
   | exact ih2 _ _ _ _ _
   | exact ih3 _ _ _ _ _ _ _ _
   | exact ih4 _ _ _ _ _ _ _ _ _
   | exact spec_Digest.mono _ _
   | exact spec_l15Before.mono _ _ _
   | exact spec_l15Name.mono _ _
   | exact LeO.none _
   | refine LeO.ite ?_ ?_
   | refine LeO.bind ?_ (fun _ => ?_)
def spec_Pack.T9 : Bool × List (List Nat × List Nat) := (true, [([], []), ([], []), ([0, 1], [0, 1]), ([2], [2]), ([], []), ([], []), ([4, 5], [4, 5]), ([6], [6]), ([7], [7]), ([], []), ([], []), ([9, 10], [9, 10]), ([11], [11]), ([12], [12]), ([3, 8, 13], [3, 8, 13]), ([], []), ([15, 14, 13, 0, 1, 2, 3, 4, 5, 6, 7, 8, 9, 10, 11, 12, 13, 14, 15], [14, 15])])
def spec_Pack.B9 : List Nat := [0, 0, 3, 7, 0, 0, 48, 112, 240, 0, 0, 1536, 3584, 7680, 16383, 0, 65535]
theorem spec_Pack.tab9 : rtab .any (opsOf Try.f51 9) = spec_Pack.T9 := by kernel_rfl
theorem spec_Pack.bits9 : waitsOk spec_Pack.T9.2 spec_Pack.B9 = true := by kernel_rfl
def spec_Pack.T12 : Bool × List (List Nat × List Nat) := (true, [([], []), ([0], [0]), ([1], [1]), ([2], [2]), ([2], [2]), ([4, 2], [2, 4]), ([3, 5, 2], [2, 3, 5]), ([6, 2], [2, 6]), ([7, 2], [2, 7]), ([2], [2]), ([9, 2], [2, 9]), ([8, 10, 2, 2], [2, 8, 10]), ([11, 2], [2, 11]), ([2, 12], [2, 12])])
def spec_Pack.B12 : List Nat := [0, 1, 3, 7, 7, 23, 63, 127, 255, 7, 519, 2047, 4095, 8191]
theorem spec_Pack.tab12 : rtab .any (opsOf Try.f51 12) = spec_Pack.T12 := by kernel_rfl
theorem spec_Pack.bits12 : waitsOk spec_Pack.T12.2 spec_Pack.B12 = true := by kernel_rfl
def spec_Pack.T13 : Bool × List (List Nat × List Nat) := (true, [([], []), ([], []), ([1], [1]), ([0, 2], [0, 2]), ([3], [3]), ([4], [4]), ([], []), ([6], [6]), ([5, 7], [5, 7])])
def spec_Pack.B13 : List Nat := [0, 0, 2, 7, 15, 31, 0, 64, 255]
theorem spec_Pack.tab13 : rtab .any (opsOf Try.f51 13) = spec_Pack.T13 := by kernel_rfl
theorem spec_Pack.bits13 : waitsOk spec_Pack.T13.2 spec_Pack.B13 = true := by kernel_rfl
set_option maxHeartbeats 8000000 in
set_option maxRecDepth 100000 in
theorem spec_Pack.calls (k : Nat) (A0 : Option Addr) (c0 : Nat) (l0 : List ByteArray) (A1 : Option Addr) (c1 : Nat) (l1 : List (List Int)) (r1 : List (S71)) (r2 : Bool) (w : World) (hr0 : Kd.C Kd.string w A0 l0.length l0) (hc0 : l0.length ≤ c0) (hr1 : Kd.C (Kd.slice 5 (Kd.int .u8)) w A1 l1.length l1) (hc1 : l1.length ≤ c1) (h : spec_Pack.f k l0 l1 = some (r1, r2)) :
  Calls Try.prog 51 #[.slice A0 l0.length c0,.slice A1 l1.length c1] w fun e w'=>∃ v0_:Value,e=.returned (.tuple #[v0_,.bool r2])∧Kd.R k71 71 w' w.heap.size (fun _=>True) v0_ r1∧Below w.heap.size w w':=by
 have hu71:=Try.underlying71
 have HR0:=Ma hr0
 have HC0:=Ma hc0
 clear hr0 hc0
 have HR1:=Ma hr1
 have HC1:=Ma hc1
 clear hr1 hc1
 have HB:=Ma (Below.refl w.heap.size w)
 have H:((some (([]:List (S71)):List (S71))).bind fun yh=>(if (l0.length:Int)=(l1.length:Int) then (spec_Pack.j0 k l0 l1 yh (decide ((l0.length:Int) > 100))) else (spec_Pack.j0 k l0 l1 yh true)))=some (r1,r2):=h
 clear h
 obtain⟨yh,hy321⟩:∃ y_:List (S71),y_=(([]:List (S71))):=⟨_,rfl⟩
 replace H:(if (l0.length:Int)=(l1.length:Int) then (spec_Pack.j0 k l0 l1 yh (decide ((l0.length:Int) > 100))) else (spec_Pack.j0 k l0 l1 yh true))=some (r1,r2):=by first|(rw [hy321];with_reducible exact H)|(have yk:=(Option.bind_some _ _).symm.trans H;rw [hy321];with_reducible exact yk)|(have yk:=(Option.bind_some _ _).symm.trans H;with_reducible exact yk)|with_reducible exact H|(rw [hy321];exact H)|exact H
 have Ny321:=Ma hy321
 clear hy321
 have HC3:=Ma H
 clear H
 go_enter Try.func51,Try.ntmps51
 go_upto_region 2 with (first|((with_reducible refine gate_dst (N:=10) rfl ?_);(try(refine gate_guard (by rfl) ?_;dsimp only));refine Kd.R_lit k71 _ 71 ?hg (N:=10) ?hd (xs:=([]:List (S71))) (inner:=[]) (ok:=fun _=>True) (okp:=fun _=>True) ?hr ?hp (fun _ hk=>hk) trivial (Below.refl _ _) (Nat.le_refl _) (by simp) ?_;(case hd=>rfl);(case hg=>rfl);(case hr=>first|(go_simp;done)|(go_simp;rfl));(case hp=>exact(Reps.none _ _));intro v322 w4 ho5 hb hg_ hnew_;clear hg_ hnew_;(first|rw [← Ny321.out] at ho5|(simp only [Int.reduceToNat] at ho5;rw [← Ny321.out] at ho5));have qw:=Ma (Kd.R_lower ho5 (below_size (by repeat(first|(with_reducible first|exact HB.out|apply Mf|apply Md|apply Me)|exact HB.out))));have qx:=Ma (below_step (by repeat(first|(with_reducible first|exact HB.out|apply Mf|apply Md|apply Me)|exact HB.out)) hb);clear HB;have HO323:=qw;have HB:=qx;clear qw qx;clear hb ho5))
 (try simp only [Act.put,List.setIfInBounds_toArray,List.set_cons_zero,List.set_cons_succ])
 go_cut [20] (fun v20 wc=>∃ (kq:Nat) (x20_2:Bool),v20=.bool x20_2∧Aside0 (spec_Pack.j0 kq l0 l1 yh x20_2=some (r1,r2))∧Aside0 (kq≤k)∧Aside0 (Kd.R k71 71 wc w.heap.size (fun _=>True) v322 yh)∧Aside0 (Below w.heap.size w wc))
 case first=>
  have H:=HC3.out
  clear HC3
  by_cases c6:(l0.length:Int)=(l1.length:Int)
  ·rw [if_pos c6] at H
   have ym:((l0.length:Int) == (l1.length:Int))=true:=beq_iff_eq.mpr c6
   have c6b1:((l0.length:Int) != (l1.length:Int))=false:=bne_eq_false_iff_eq.mpr c6
   have c6b2:(l0.length == l1.length)=true:=by first|simpa using c6|(simp at c6 ⊢;omega)
   clear c6
   (first|rw [ym]|(simp only [i64_w,i32_w];rw [ym])|skip)
   have H':=Ma H
   clear H
   go_wp2
   go_meet
   case rel=>exact⟨_,(decide ((l0.length:Int) > 100)),(by first|rfl|(simp;done)|(simp [*];done)),H',⟨by first|omega|exact Nat.le_refl _⟩,⟨by(with_reducible repeat(first|apply Mi|apply Mj|apply Mb));exact HO323.out⟩,⟨by repeat(first|(with_reducible first|exact HB.out|apply Mf|apply Md|apply Me)|exact HB.out)⟩⟩
  ·rw [if_neg c6] at H
   have ym:((l0.length:Int) == (l1.length:Int))=false:=beq_eq_false_iff_ne.mpr c6
   have c6b1:((l0.length:Int) != (l1.length:Int))=true:=bne_iff_ne.mpr c6
   have c6b2:(l0.length == l1.length)=false:=by first|simpa using c6|(simp at c6 ⊢;omega)
   (first|rw [ym]|(simp only [i64_w,i32_w];rw [ym])|skip)
   have H':=Ma H
   clear H
   go_wp2
   go_meet
   case rel=>exact⟨_,(true),(by first|rfl|(simp;done)|(simp [*];done)),H',⟨by first|omega|exact Nat.le_refl _⟩,⟨by(with_reducible repeat(first|apply Mi|apply Mj|apply Mb));exact HO323.out⟩,⟨by repeat(first|(with_reducible first|exact HB.out|apply Mf|apply Md|apply Me)|exact HB.out)⟩⟩
 case rest=>
  clear HC3
  try clear c1
  try clear p2
  try clear c5
  try clear c6
  try clear ym
  try clear c6b1
  try clear c6b2
  obtain⟨kq,x20_2,rfl,HA,HJ2,qh,HB⟩:=hcut
  cases kq with
  | zero => exact absurd HA.out (by simp [spec_Pack.j0])
  | succ kj2 =>
   have H:=HA.out
   clear HA
   simp only [spec_Pack.j0] at H
   by_cases c7:x20_2=true
   ·subst c7
    have H1:(some (yh,false))=some (r1,r2):=by rw [if_pos rfl] at H;exact H
    clear H
    have H:=H1
    clear H1
    simp only [Option.some.injEq,Prod.mk.injEq] at H
    obtain⟨rfl,rfl⟩:=H
    go_wp2
    go_ret2
    exact⟨_,by first|rfl|(simp [errW_none,errW_some] <;> rfl)|(simp [*,errW_none,errW_some] <;> rfl),by(with_reducible repeat(first|apply Mi|apply Mj|apply Mb));exact qh.out,by repeat(first|(with_reducible first|exact HB.out|apply Mf|apply Md|apply Me)|exact HB.out)⟩
   ·replace c7:=Bool.eq_false_iff.mpr c7
    subst c7
    have H1:(spec_Pack.l0 kj2 l0 l1 yh 0)=some (r1,r2):=by rw [if_neg (show ¬ (false=true) by decide)] at H;exact H
    clear H
    have H:=H1
    clear H1
    have H':=Ma H
    clear H
    go_wp2
    go_loopg [6,7] kj2 (fun kq v6 v7 w'=>∃ (qr:List (S71)) (qb:Int),v7=.int .i64 qb∧Aside0 (spec_Pack.l0 kq l0 l1 qr qb=some (r1,r2))∧Aside0 (kq≤kj2)∧Aside0 (Kd.R k71 71 w' w.heap.size (fun _=>True) v6 qr)∧Aside0 (Below w.heap.size w w'))
    case atStart=>exact⟨(yh),(0),(by first|rfl|(simp;done)|(simp [*];done)),H',⟨Nat.le_refl _⟩,⟨by(with_reducible repeat(first|apply Mi|apply Mj|apply Mb));exact qh.out⟩,⟨by repeat(first|(with_reducible first|exact HB.out|apply Mf|apply Md|apply Me)|exact HB.out)⟩⟩
    case round=>
     clear H'
     try clear c1
     try clear p2
     try clear c5
     try clear c6
     try clear ym
     try clear c6b1
     try clear c6b2
     try clear c7
     try clear p2
     obtain⟨qr,qb,rfl,HA,HK2,qh,HB⟩:=hrel
     cases gk with
     | zero => exact absurd HA.out (by simp [spec_Pack.l0])
     | succ k2 =>
      have H:=HA.out
      clear HA
      simp only [spec_Pack.l0] at H
      by_cases c8:qb < (l0.length:Int)
      ·rw [if_pos c8] at H
       have c8b0:decide (qb < (l0.length:Int))=true:=decide_eq_true c8
       clear c8
       have HC9:=Ma H
       clear H
       go_upto_region 7 with (fail)
       go_cut [41] (fun v41 wc=>∃ (kq:Nat) (x41_8:Bool),v41=.bool x41_8∧Aside0 (spec_Pack.j2 kq l0 l1 qr qb x41_8=some (r1,r2))∧Aside0 (kq≤k2)∧Aside0 (Kd.R k71 71 wc w.heap.size (fun _=>True) u6 qr)∧Aside0 (Below w.heap.size w wc))
       case first=>
        have H:=HC9.out
        clear HC9
        by_cases c10:0≤qb
        ·rw [if_pos c10] at H
         have c10b0:decide (0≤qb)=true:=decide_eq_true c10
         clear c10
         (first|rw [c10b0]|(simp only [i64_w,i32_w];rw [c10b0])|skip)
         replace H:=Option.bind_eq_some_iff.mp H
         obtain⟨t325,A110,H⟩:=H
         replace H:(if t325=true then (if qb < (l1.length:Int) then (spec_Pack.j2 k2 l0 l1 qr qb (decide (((rd_L5 l1 qb).length:Int) > 40000))) else (none)) else (spec_Pack.j2 k2 l0 l1 qr qb true))=some (r1,r2):=H
         have A11:=Ma A110
         clear A110
         by_cases c12:t325=true
         ·subst c12
          have H1:(if qb < (l1.length:Int) then (spec_Pack.j2 k2 l0 l1 qr qb (decide (((rd_L5 l1 qb).length:Int) > 40000))) else (none))=some (r1,r2):=by rw [if_pos rfl] at H;exact H
          clear H
          have H:=H1
          clear H1
          by_cases c13:qb < (l1.length:Int)
          ·rw [if_pos c13] at H
           have c13b0:decide (qb < (l1.length:Int))=true:=decide_eq_true c13
           clear c13
           have H':=Ma H
           clear H
           have yn:0≤(qb:Int):=of_decide_eq_true (by first|(with_reducible assumption)|assumption)
           have yo:qb < (l0.length:Int):=of_decide_eq_true (by first|(with_reducible assumption)|assumption)
           obtain⟨ad324,e324,qp⟩:=Kd.at_string HR0.out qb yn yo
           cases e324
           replace qp:=(HB.out.cell (World.block_lt_of_cell? w _ qp)).trans qp
           replace yn:=eq_true yn
           replace yo:=eq_true yo
           go_wp2_with (first|((with_reducible refine gate_callee (f:=59) rfl ?_);refine goesL_ (some 32) rfl rfl Try.func59 (by kernel_rfl) rfl #[.string (rdOf ByteArray.empty l0 qb)] rfl (by(try simp only [List.map_toArray,List.map_cons,List.map_nil]);first|done|rfl|(simp only [List.length_drop,List.length_take];rfl)) ?_;(with_reducible refine(spec_l15Name.calls k2 (rdOf ByteArray.empty l0 qb) true _ A11.out).mono ?_);rintro e w' ⟨rfl,⟨nd,rfl⟩⟩;refine⟨_,rfl,?_⟩;have p326:0≤(qb:Int):=of_decide_eq_true (by first|(with_reducible assumption)|assumption);have q326:qb < (l1.length:Int):=of_decide_eq_true (by first|(with_reducible assumption)|assumption);obtain⟨ad326,A326_0,c326_0,e326,yd,hl326_0,hi326_0⟩:=at_L5 HR1.out qb p326 q326;cases e326;replace yd:=(HB.out.cell (World.block_lt_of_cell? w _ yd)).trans yd;have HR326_0:=Ma hi326_0;have HC326_0:=Ma hl326_0;clear hi326_0 hl326_0;replace p326:=eq_true p326;replace q326:=eq_true q326))
           go_meet
           case rel=>exact⟨_,(decide (((rd_L5 l1 qb).length:Int) > 40000)),(by first|rfl|(simp;done)|(simp [*];done)),H',⟨by have:=HJ2.out;have:=HK2.out;first|omega|exact Nat.le_refl _⟩,⟨by(with_reducible repeat(first|apply Mi|apply Mj|apply Mb));exact qh.out⟩,⟨by repeat(first|(with_reducible first|exact HB.out|apply Mf|apply Md|apply Me)|exact HB.out)⟩⟩
          ·rw [if_neg c13] at H
           exact absurd H (by simp)
         ·replace c12:=Bool.eq_false_iff.mpr c12
          subst c12
          have H1:(spec_Pack.j2 k2 l0 l1 qr qb true)=some (r1,r2):=by rw [if_neg (show ¬ (false=true) by decide)] at H;exact H
          clear H
          have H:=H1
          clear H1
          have H':=Ma H
          clear H
          have yn:0≤(qb:Int):=of_decide_eq_true (by first|(with_reducible assumption)|assumption)
          have yo:qb < (l0.length:Int):=of_decide_eq_true (by first|(with_reducible assumption)|assumption)
          obtain⟨ad324,e324,qp⟩:=Kd.at_string HR0.out qb yn yo
          cases e324
          replace qp:=(HB.out.cell (World.block_lt_of_cell? w _ qp)).trans qp
          replace yn:=eq_true yn
          replace yo:=eq_true yo
          go_wp2_with (first|((with_reducible refine gate_callee (f:=59) rfl ?_);refine goesL_ (some 32) rfl rfl Try.func59 (by kernel_rfl) rfl #[.string (rdOf ByteArray.empty l0 qb)] rfl (by(try simp only [List.map_toArray,List.map_cons,List.map_nil]);first|done|rfl|(simp only [List.length_drop,List.length_take];rfl)) ?_;(with_reducible refine(spec_l15Name.calls k2 (rdOf ByteArray.empty l0 qb) false _ A11.out).mono ?_);rintro e w' ⟨rfl,⟨nd,rfl⟩⟩;refine⟨_,rfl,?_⟩))
          go_meet
          case rel=>exact⟨_,(true),(by first|rfl|(simp;done)|(simp [*];done)),H',⟨by have:=HJ2.out;have:=HK2.out;first|omega|exact Nat.le_refl _⟩,⟨by(with_reducible repeat(first|apply Mi|apply Mj|apply Mb));exact qh.out⟩,⟨by repeat(first|(with_reducible first|exact HB.out|apply Mf|apply Md|apply Me)|exact HB.out)⟩⟩
        ·rw [if_neg c10] at H
         exact absurd H (by simp)
       case rest=>
        clear HC9
        try clear c1
        try clear p2
        try clear c3
        try clear p3
        try clear q3
        try clear hx3
        try clear c5
        try clear c6
        try clear ym
        try clear c6b1
        try clear c6b2
        try clear c7
        try clear c8
        try clear c8b0
        try clear c10
        try clear c10b0
        try clear c12
        try clear c13
        try clear c13b0
        try clear qp
        try clear yd
        try clear p2
        try clear yn
        try clear p326
        try clear yo
        try clear q326
        obtain⟨kq,x41_8,rfl,HA,HJ8,qh,HB⟩:=hcut
        cases kq with
        | zero => exact absurd HA.out (by simp [spec_Pack.j2])
        | succ kj8 =>
         have H:=HA.out
         clear HA
         simp only [spec_Pack.j2] at H
         by_cases c14:x41_8=true
         ·subst c14
          have H1:(some ((([]:List (S71))),false))=some (r1,r2):=by rw [if_pos rfl] at H;exact H
          clear H
          have H:=H1
          clear H1
          obtain⟨y327,hy327⟩:∃ y_:List (S71),y_=(([]:List (S71))):=⟨_,rfl⟩
          replace H:(some (y327,false))=some (r1,r2):=by first|(rw [hy327];with_reducible exact H)|(have yk:=(Option.bind_some _ _).symm.trans H;rw [hy327];with_reducible exact yk)|(have yk:=(Option.bind_some _ _).symm.trans H;with_reducible exact yk)|with_reducible exact H|(rw [hy327];exact H)|exact H
          have Ny327:=Ma hy327
          clear hy327
          simp only [Option.some.injEq,Prod.mk.injEq] at H
          obtain⟨rfl,rfl⟩:=H
          go_wp2_with (first|((with_reducible refine gate_dst (N:=42) rfl ?_);(try(refine gate_guard (by rfl) ?_;dsimp only));refine Kd.R_lit k71 _ 71 ?hg (N:=42) ?hd (xs:=([]:List (S71))) (inner:=[]) (ok:=fun _=>True) (okp:=fun _=>True) ?hr ?hp (fun _ hk=>hk) trivial (Below.refl _ _) (Nat.le_refl _) (by simp) ?_;(case hd=>rfl);(case hg=>rfl);(case hr=>first|(go_simp;done)|(go_simp;rfl));(case hp=>exact(Reps.none _ _));intro v328 w15 ho16 hb hg_ hnew_;clear hg_ hnew_;(first|rw [← Ny327.out] at ho16|(simp only [Int.reduceToNat] at ho16;rw [← Ny327.out] at ho16));have qw:=Ma (Kd.R_elder' (by(with_reducible repeat(first|apply Mi|apply Mj|apply Mb));exact qh.out) (Kd.R_base ho16) hb);have qx:=Ma (Kd.R_lower (Kd.R_new' ho16 (Kd.R_lt (by(with_reducible repeat(first|apply Mi|apply Mj|apply Mb));exact qh.out))) (below_size (by repeat(first|(with_reducible first|exact HB.out|apply Mf|apply Md|apply Me)|exact HB.out))));have yc:=Ma (below_step (by repeat(first|(with_reducible first|exact HB.out|apply Mf|apply Md|apply Me)|exact HB.out)) hb);clear qh;clear HB;have qh:=qw;have HO329:=qx;have HB:=yc;clear qw qx yc;clear hb ho16))
          go_ret2
          exact⟨_,by first|rfl|(simp [errW_none,errW_some] <;> rfl)|(simp [*,errW_none,errW_some] <;> rfl),by(with_reducible repeat(first|apply Mi|apply Mj|apply Mb));exact Kd.R_mono HO329.out (fun _ hk=>trivial),by repeat(first|(with_reducible first|exact HB.out|apply Mf|apply Md|apply Me)|exact HB.out)⟩
         ·replace c14:=Bool.eq_false_iff.mpr c14
          subst c14
          have H1:(if 0≤qb then (if qb < (l0.length:Int) then (if qb < (l1.length:Int) then ((spec_Digest.f kj8 (rd_L5 l1 qb)).bind fun qv=>(if qr.length < 4398046511104 then (spec_Pack.l1 kj8 l0 l1 (qr ++ [(⟨rdOf ByteArray.empty l0 qb,((rd_L5 l1 qb).length:Int),qv⟩:S71)]) qb (qr.length:Int) (rdOf ByteArray.empty l0 qb) ((rd_L5 l1 qb).length:Int) qv) else (none))) else (none)) else (none)) else (none))=some (r1,r2):=by rw [if_neg (show ¬ (false=true) by decide)] at H;exact H
          clear H
          have H:=H1
          clear H1
          by_cases c17:0≤qb
          ·rw [if_pos c17] at H
           have c17b0:decide (0≤qb)=true:=decide_eq_true c17
           clear c17
           by_cases c18:qb < (l0.length:Int)
           ·rw [if_pos c18] at H
            have c18b0:decide (qb < (l0.length:Int))=true:=decide_eq_true c18
            clear c18
            by_cases c19:qb < (l1.length:Int)
            ·rw [if_pos c19] at H
             have c19b0:decide (qb < (l1.length:Int))=true:=decide_eq_true c19
             clear c19
             replace H:=Option.bind_eq_some_iff.mp H
             obtain⟨qv,A200,H⟩:=H
             replace H:(if qr.length < 4398046511104 then (spec_Pack.l1 kj8 l0 l1 (qr ++ [(⟨rdOf ByteArray.empty l0 qb,((rd_L5 l1 qb).length:Int),qv⟩:S71)]) qb (qr.length:Int) (rdOf ByteArray.empty l0 qb) ((rd_L5 l1 qb).length:Int) qv) else (none))=some (r1,r2):=H
             have A20:=Ma A200
             clear A200
             by_cases c21:qr.length < 4398046511104
             ·rw [if_pos c21] at H
              have LMc21:=Ma c21
              clear c21
              obtain⟨y335,hy335⟩:∃ y_:List (S71),y_=(qr ++ [(⟨rdOf ByteArray.empty l0 qb,((rd_L5 l1 qb).length:Int),qv⟩:S71)]):=⟨_,rfl⟩
              replace H:(spec_Pack.l1 kj8 l0 l1 y335 qb (qr.length:Int) (rdOf ByteArray.empty l0 qb) ((rd_L5 l1 qb).length:Int) qv)=some (r1,r2):=by first|(rw [hy335];with_reducible exact H)|(have yk:=(Option.bind_some _ _).symm.trans H;rw [hy335];with_reducible exact yk)|(have yk:=(Option.bind_some _ _).symm.trans H;with_reducible exact yk)|with_reducible exact H|(rw [hy335];exact H)|exact H
              have Ny335:=Ma hy335
              clear hy335
              have H':=Ma H
              clear H
              try go_wp2
              have qw:=Ma (Mb qh.out)
              have qx:=Ma (Me HB.out)
              clear qh
              clear HB
              have qh:=qw
              have HB:=qx
              clear qw qx
              have p330:0≤(qb:Int):=of_decide_eq_true (by first|(with_reducible assumption)|assumption)
              have q330:qb < (l0.length:Int):=of_decide_eq_true (by first|(with_reducible assumption)|assumption)
              obtain⟨ad330,e330,qy⟩:=Kd.at_string HR0.out qb p330 q330
              have ql:=qy
              cases e330
              replace qy:=(HB.out.cell (World.block_lt_of_cell? w _ qy)).trans qy
              replace p330:=eq_true p330
              replace q330:=eq_true q330
              have p331:0≤(qb:Int):=of_decide_eq_true (by first|(with_reducible assumption)|assumption)
              have q331:qb < (l1.length:Int):=of_decide_eq_true (by first|(with_reducible assumption)|assumption)
              obtain⟨yl,ya,yb,e331,qs,hl331_0,hi331_0⟩:=at_L5 HR1.out qb p331 q331
              have qm:=qs
              cases e331
              replace qs:=(HB.out.cell (World.block_lt_of_cell? w _ qs)).trans qs
              have HR331_0:=Ma hi331_0
              have HC331_0:=Ma hl331_0
              clear hi331_0 hl331_0
              replace p331:=eq_true p331
              replace q331:=eq_true q331
              have p332:0≤(qb:Int):=of_decide_eq_true (by first|(with_reducible assumption)|assumption)
              have q332:qb < (l1.length:Int):=of_decide_eq_true (by first|(with_reducible assumption)|assumption)
              obtain⟨ad332,A332_0,c332_0,e332,qt,hl332_0,hi332_0⟩:=at_L5 HR1.out qb p332 q332
              have qn:=qt
              obtain rfl:yl=ad332:=(by injection e332)
              replace qt:=(HB.out.cell (World.block_lt_of_cell? w _ qt)).trans qt
              have HR332_0:=Ma hi332_0
              have HC332_0:=Ma hl332_0
              clear hi332_0 hl332_0
              replace p332:=eq_true p332
              replace q332:=eq_true q332
              have ea_:=Option.some.inj (qs.symm.trans qt)
              injection ea_ with ea_ en_ ec_
              subst ea_
              subst ec_
              clear en_
              refine start_ (n:=17) (S:=fun w'=>w'.cell? (ad330.add (qb).toNat)=some (.string (rdOf ByteArray.empty l0 qb))∧w'.cell? (yl.add (qb).toNat)=some (.slice ya (rd_L5 l1 qb).length yb)∧w'.cell? (yl.add (qb).toNat)=some (.slice ya (rd_L5 l1 qb).length yb)) (ds:=[]) #[false,false,false,false,false,false,false,false,false,false,false,false,false,false,false,false,false] (by kernel_rfl) rfl rfl ⟨((HB.out.cell (World.block_lt_of_cell? w _ ql)).trans ql),((HB.out.cell (World.block_lt_of_cell? w _ qm)).trans qm),((HB.out.cell (World.block_lt_of_cell? w _ qn)).trans qn)⟩ (fun qo=>?_);refine with_tabW spec_Pack.tab9 spec_Pack.bits9 (fun HT_ HW_=>?_)
              generalize wc.drew=w22 at qh HB HR331_0 HR332_0 qy qs qt qo ⊢
              refine pure_ (i:=0) (N:=some 43) (v:=?_) (a':=?_) #[true,false,false,false,false,false,false,false,false,false,false,false,false,false,false,false,false] rfl rfl (Mh HT_.out (by kernel_rfl)) (fun _ _ _ h=>h) (Or.inl ⟨by rfl,?_⟩) ?_ ?_
              rotate_left
              ·intro w'
               go_simp
               with_reducible rfl
              rotate_left
              ·simp only [Act.put,List.setIfInBounds_toArray,List.set_cons_zero,List.set_cons_succ,i64_w,i32_w]
               rfl
              refine pure_ (i:=1) (N:=some 44) (v:=?_) (a':=?_) #[true,true,false,false,false,false,false,false,false,false,false,false,false,false,false,false,false] rfl rfl (Mh HT_.out (by kernel_rfl)) (fun _ _ _ h=>h) (Or.inl ⟨by rfl,?_⟩) ?_ ?_
              rotate_left
              ·intro w'
               go_simp
               with_reducible rfl
              rotate_left
              ·simp only [Act.put,List.setIfInBounds_toArray,List.set_cons_zero,List.set_cons_succ,i64_w,i32_w]
               rfl
              refine pure_ (i:=2) (N:=some 45) (v:=?_) (a':=?_) #[true,true,true,false,false,false,false,false,false,false,false,false,false,false,false,false,false] rfl rfl (Mh HT_.out (by kernel_rfl)) (fun _ _ _ h=>h) (Or.inl ⟨by rfl,?_⟩) ?_ ?_
              rotate_left
              ·intro w'
               go_simp
               with_reducible rfl
              rotate_left
              ·simp only [Act.put,List.setIfInBounds_toArray,List.set_cons_zero,List.set_cons_succ,i64_w,i32_w]
               rfl
              refine pure_ (i:=4) (N:=some 47) (v:=?_) (a':=?_) #[true,true,true,false,true,false,false,false,false,false,false,false,false,false,false,false,false] rfl rfl (Mh HT_.out (by kernel_rfl)) (fun _ _ _ h=>h) (Or.inl ⟨by rfl,?_⟩) ?_ ?_
              rotate_left
              ·intro w'
               go_simp
               with_reducible rfl
              rotate_left
              ·simp only [Act.put,List.setIfInBounds_toArray,List.set_cons_zero,List.set_cons_succ,i64_w,i32_w]
               rfl
              refine pure_ (i:=5) (N:=some 48) (v:=?_) (a':=?_) #[true,true,true,false,true,true,false,false,false,false,false,false,false,false,false,false,false] rfl rfl (Mh HT_.out (by kernel_rfl)) (fun _ _ _ h=>h) (Or.inl ⟨by rfl,?_⟩) ?_ ?_
              rotate_left
              ·intro w'
               go_simp
               with_reducible rfl
              rotate_left
              ·simp only [Act.put,List.setIfInBounds_toArray,List.set_cons_zero,List.set_cons_succ,i64_w,i32_w]
               rfl
              refine pure_ (i:=6) (N:=some 49) (v:=?_) (a':=?_) #[true,true,true,false,true,true,true,false,false,false,false,false,false,false,false,false,false] rfl rfl (Mh HT_.out (by kernel_rfl)) (fun _ _ _ h=>h) (Or.inl ⟨by rfl,?_⟩) ?_ ?_
              rotate_left
              ·intro w'
               go_simp
               with_reducible rfl
              rotate_left
              ·simp only [Act.put,List.setIfInBounds_toArray,List.set_cons_zero,List.set_cons_succ,i64_w,i32_w]
               rfl
              refine pure_ (i:=9) (N:=some 52) (v:=?_) (a':=?_) #[true,true,true,false,true,true,true,false,false,true,false,false,false,false,false,false,false] rfl rfl (Mh HT_.out (by kernel_rfl)) (fun _ _ _ h=>h) (Or.inl ⟨by rfl,?_⟩) ?_ ?_
              rotate_left
              ·intro w'
               go_simp
               with_reducible rfl
              rotate_left
              ·simp only [Act.put,List.setIfInBounds_toArray,List.set_cons_zero,List.set_cons_succ,i64_w,i32_w]
               rfl
              refine pure_ (i:=10) (N:=some 53) (v:=?_) (a':=?_) #[true,true,true,false,true,true,true,false,false,true,true,false,false,false,false,false,false] rfl rfl (Mh HT_.out (by kernel_rfl)) (fun _ _ _ h=>h) (Or.inl ⟨by rfl,?_⟩) ?_ ?_
              rotate_left
              ·intro w'
               go_simp
               with_reducible rfl
              rotate_left
              ·simp only [Act.put,List.setIfInBounds_toArray,List.set_cons_zero,List.set_cons_succ,i64_w,i32_w]
               rfl
              refine pure_ (i:=11) (N:=some 54) (v:=?_) (a':=?_) #[true,true,true,false,true,true,true,false,false,true,true,true,false,false,false,false,false] rfl rfl (Mh HT_.out (by kernel_rfl)) (fun _ _ _ h=>h) (Or.inl ⟨by rfl,?_⟩) ?_ ?_
              rotate_left
              ·intro w'
               go_simp
               with_reducible rfl
              rotate_left
              ·simp only [Act.put,List.setIfInBounds_toArray,List.set_cons_zero,List.set_cons_succ,i64_w,i32_w]
               rfl
              refine take_ (i:=3) (N:=some 46) (v:=?_) (a':=?_) #[true,true,true,true,true,true,true,false,false,true,true,true,false,false,false,false,false] rfl rfl (take_ofW HT_.out HW_.out (by kernel_rfl)) (fun _ _ _ h=>h) (Or.inl ⟨by rfl,?_⟩) qo ?_ ?_
              rotate_left
              ·rintro w' ⟨s0,s1,s2⟩
               go_simp
               with_reducible rfl
              rotate_left
              ·simp only [Act.put,List.setIfInBounds_toArray,List.set_cons_zero,List.set_cons_succ,i64_w,i32_w]
               rfl
              refine take_ (i:=7) (N:=some 50) (v:=?_) (a':=?_) #[true,true,true,true,true,true,true,true,false,true,true,true,false,false,false,false,false] rfl rfl (take_ofW HT_.out HW_.out (by kernel_rfl)) (fun _ _ _ h=>h) (Or.inl ⟨by rfl,?_⟩) qo ?_ ?_
              rotate_left
              ·rintro w' ⟨s0,s1,s2⟩
               go_simp
               with_reducible rfl
              rotate_left
              ·simp only [Act.put,List.setIfInBounds_toArray,List.set_cons_zero,List.set_cons_succ,i64_w,i32_w]
               rfl
              refine pure_ (i:=8) (N:=some 51) (v:=?_) (a':=?_) #[true,true,true,true,true,true,true,true,true,true,true,true,false,false,false,false,false] rfl rfl (Mh HT_.out (by kernel_rfl)) (fun _ _ _ h=>h) (Or.inl ⟨by rfl,?_⟩) ?_ ?_
              rotate_left
              ·intro w'
               go_simp
               with_reducible rfl
              rotate_left
              ·simp only [Act.put,List.setIfInBounds_toArray,List.set_cons_zero,List.set_cons_succ,i64_w,i32_w]
               rfl
              refine take_ (i:=12) (N:=some 55) (v:=?_) (a':=?_) #[true,true,true,true,true,true,true,true,true,true,true,true,true,false,false,false,false] rfl rfl (take_ofW HT_.out HW_.out (by kernel_rfl)) (fun _ _ _ h=>h) (Or.inl ⟨by rfl,?_⟩) qo ?_ ?_
              rotate_left
              ·rintro w' ⟨s0,s1,s2⟩
               go_simp
               with_reducible rfl
              rotate_left
              ·simp only [Act.put,List.setIfInBounds_toArray,List.set_cons_zero,List.set_cons_succ,i64_w,i32_w]
               rfl
              refine join_ (σ:=Nat) 1 #[true,true,true,true,true,true,true,true,true,true,true,true,true,true,true,true,false] (fun s_=>[(56,.int .i64 qv),(8,.pointer (some ⟨s_,0,none⟩)),(57,.agg #[.string (rdOf ByteArray.empty l0 qb),.int .i64 ((rd_L5 l1 qb).length:Int),.int .i64 qv])]) (fun s_ w'=>(w'.cell? (ad330.add (qb).toNat)=some (.string (rdOf ByteArray.empty l0 qb))∧w'.cell? (yl.add (qb).toNat)=some (.slice ya (rd_L5 l1 qb).length yb)∧w'.cell? (yl.add (qb).toNat)=some (.slice ya (rd_L5 l1 qb).length yb))∧(Kd.R k71 71 w' w.heap.size (fun k_=>k_≠s_) u6 qr)∧(w'.heap[s_]? = some (.cells #[.string (⟨#[]⟩:ByteArray),.int .i64 0,.int .i64 0] 71 (0,0)))∧(w.heap.size≤s_)∧(w.heap.size≤s_)∧(Below w.heap.size w w')) ?_ ?_
              rotate_left
              ·intro hCont
               refine two_ (i:=13) (j:=15) (Ni:=some 56) (Nj:=some 8) #[true,true,true,true,true,true,true,true,true,true,true,true,true,true,false,false,false] #[true,true,true,true,true,true,true,true,true,true,true,true,true,false,false,true,false] rfl rfl rfl rfl (two_of HT_.out (by kernel_rfl)) (by decide) (by decide) (fun K hK=>?_) (fun K hK=>?_)
               ·skip
                refine goes_ Try.func13 (by kernel_rfl) rfl #[.slice ya (rd_L5 l1 qb).length yb] (by rfl) rfl rfl (by(try simp only [List.map_toArray,List.map_cons,List.map_nil]);first|done|rfl|(simp only [List.length_drop,List.length_take];rfl)) ?_
                with_reducible refine(spec_Digest.calls kj8 _ _ (rd_L5 l1 qb) qv _ ?side1 ?side2 A20.out).mono ?_
                (case side1=>repeat(first|exact(Kd.C_below HR332_0.out HB.out)|(with_reducible refine Kd.C_alloc ?_ _)|(with_reducible refine Kd.C_drewN ?_ _)|(with_reducible refine Kd.C_drew ?_)))
                (case side2=>exact HC332_0.out)
                rintro e w' ⟨rfl,⟨nd,rfl⟩⟩
                refine⟨_,rfl,?_⟩
                refine hK.out _ _ ⟨((HB.out.cell (World.block_lt_of_cell? w _ ql)).trans ql),((HB.out.cell (World.block_lt_of_cell? w _ qm)).trans qm),((HB.out.cell (World.block_lt_of_cell? w _ qn)).trans qn)⟩ (fun qo=>?_)
                clear hK K
                refine norm_ (a':=?_) ?_ ?_
                rotate_left
                ·show Act.put _ (some 56) _=_
                 simp only [Act.put,List.setIfInBounds_toArray,List.set_cons_zero,List.set_cons_succ,i64_w,i32_w]
                 rfl
                refine pure_ (i:=14) (N:=some 57) (v:=?_) (a':=?_) #[true,true,true,true,true,true,true,true,true,true,true,true,true,true,true,false,false] rfl rfl (Mh HT_.out (by kernel_rfl)) (fun _ _ _ h=>h) (Or.inl ⟨by rfl,?_⟩) ?_ ?_
                rotate_left
                ·intro w'
                 go_simp
                 with_reducible rfl
                rotate_left
                ·simp only [Act.put,List.setIfInBounds_toArray,List.set_cons_zero,List.set_cons_succ,i64_w,i32_w]
                 rfl
                refine one_ (i:=15) (N:=some 8) #[true,true,true,true,true,true,true,true,true,true,true,true,true,true,true,true,false] rfl rfl (one_of HT_.out (by kernel_rfl)) (by decide) (fun K hK=>?_)
                refine box_step ?hg (N:=8) ?hd (cs:=#[.string (⟨#[]⟩:ByteArray),.int .i64 0,.int .i64 0]) (t:=71) ?hr ?_;(case hd=>rfl);(case hg=>rfl);(case hr=>first|(go_simp;done)|(go_simp;rfl))
                intro qd hg w23 hbox hb
                have qw:=Ma (Kd.R_below (Kd.R_elderB (by(with_reducible repeat(first|apply Mi|apply Mj|apply Mb));exact qh.out) qd (Nat.le_of_eq hg.symm)) hb)
                have qx:=Ma (below_step (by repeat(first|(with_reducible first|exact HB.out|apply Mf|apply Md|apply Me)|exact HB.out)) hb)
                have yc:=Ma (hbox)
                have n3_:=Ma ((by rw [hg];exact(below_size (by repeat(first|(with_reducible first|exact HB.out|apply Mf|apply Md|apply Me)|exact HB.out))):w.heap.size≤qd))
                have n4_:=Ma ((by rw [hg];exact(below_size (by repeat(first|(with_reducible first|exact HB.out|apply Mf|apply Md|apply Me)|exact HB.out))):w.heap.size≤qd))
                clear qh
                clear HB
                have qh:=qw
                have HB:=qx
                have qc:=yc
                have qj:=n3_
                have qq:=n4_
                clear qw qx yc n3_ n4_
                clear hb hbox hg
                refine hK.out _ _ ⟨((HB.out.cell (World.block_lt_of_cell? w _ ql)).trans ql),((HB.out.cell (World.block_lt_of_cell? w _ qm)).trans qm),((HB.out.cell (World.block_lt_of_cell? w _ qn)).trans qn)⟩ (fun qo=>?_)
                clear hK K
                refine norm_ (a':=?_) ?_ ?_
                rotate_left
                ·show Act.put _ (some 8) _=_
                 simp only [Act.put,List.setIfInBounds_toArray,List.set_cons_zero,List.set_cons_succ,i64_w,i32_w]
                 rfl
                exact norm_ (by simp only [putAll,Act.put,List.setIfInBounds_toArray,List.set_cons_zero,List.set_cons_succ]) (hCont (qd) _ ⟨qo,(by(with_reducible repeat(first|apply Mi|apply Mj|apply Mb));exact Kd.R_mono qh.out (fun _ hk=>hk.2)),(by(with_reducible repeat(first|refine blk_drewN ?_ _|refine Mg ?_|refine blk_alloc ?_ _));exact qc.out),qj.out,qq.out,(by repeat(first|(with_reducible first|exact HB.out|apply Mf|apply Md|apply Me|refine below_set ?_ qq.out)|exact HB.out))⟩)
               ·skip
                refine box_step ?hg (N:=8) ?hd (cs:=#[.string (⟨#[]⟩:ByteArray),.int .i64 0,.int .i64 0]) (t:=71) ?hr ?_;(case hd=>rfl);(case hg=>rfl);(case hr=>first|(go_simp;done)|(go_simp;rfl))
                intro qd hg w23 hbox hb
                have qw:=Ma (Kd.R_below (Kd.R_elderB (by(with_reducible repeat(first|apply Mi|apply Mj|apply Mb));exact qh.out) qd (Nat.le_of_eq hg.symm)) hb)
                have qx:=Ma (below_step (by repeat(first|(with_reducible first|exact HB.out|apply Mf|apply Md|apply Me)|exact HB.out)) hb)
                have yc:=Ma (hbox)
                have n3_:=Ma ((by rw [hg];exact(below_size (by repeat(first|(with_reducible first|exact HB.out|apply Mf|apply Md|apply Me)|exact HB.out))):w.heap.size≤qd))
                have n4_:=Ma ((by rw [hg];exact(below_size (by repeat(first|(with_reducible first|exact HB.out|apply Mf|apply Md|apply Me)|exact HB.out))):w.heap.size≤qd))
                clear qh
                clear HB
                have qh:=qw
                have HB:=qx
                have qc:=yc
                have qj:=n3_
                have qq:=n4_
                clear qw qx yc n3_ n4_
                clear hb hbox hg
                refine hK.out _ _ ⟨((HB.out.cell (World.block_lt_of_cell? w _ ql)).trans ql),((HB.out.cell (World.block_lt_of_cell? w _ qm)).trans qm),((HB.out.cell (World.block_lt_of_cell? w _ qn)).trans qn)⟩ (fun qo=>?_)
                clear hK K
                refine norm_ (a':=?_) ?_ ?_
                rotate_left
                ·show Act.put _ (some 8) _=_
                 simp only [Act.put,List.setIfInBounds_toArray,List.set_cons_zero,List.set_cons_succ,i64_w,i32_w]
                 rfl
                refine one_ (i:=13) (N:=some 56) #[true,true,true,true,true,true,true,true,true,true,true,true,true,true,false,true,false] rfl rfl (one_of HT_.out (by kernel_rfl)) (by decide) (fun K hK=>?_)
                refine goes_ Try.func13 (by kernel_rfl) rfl #[.slice ya (rd_L5 l1 qb).length yb] (by rfl) rfl rfl (by(try simp only [List.map_toArray,List.map_cons,List.map_nil]);first|done|rfl|(simp only [List.length_drop,List.length_take];rfl)) ?_
                with_reducible refine(spec_Digest.calls kj8 _ _ (rd_L5 l1 qb) qv _ ?side1 ?side2 A20.out).mono ?_
                (case side1=>repeat(first|exact(Kd.C_below HR332_0.out HB.out)|(with_reducible refine Kd.C_alloc ?_ _)|(with_reducible refine Kd.C_drewN ?_ _)|(with_reducible refine Kd.C_drew ?_)))
                (case side2=>exact HC332_0.out)
                rintro e w' ⟨rfl,⟨nd,rfl⟩⟩
                refine⟨_,rfl,?_⟩
                refine hK.out _ _ ⟨((HB.out.cell (World.block_lt_of_cell? w _ ql)).trans ql),((HB.out.cell (World.block_lt_of_cell? w _ qm)).trans qm),((HB.out.cell (World.block_lt_of_cell? w _ qn)).trans qn)⟩ (fun qo=>?_)
                clear hK K
                refine norm_ (a':=?_) ?_ ?_
                rotate_left
                ·show Act.put _ (some 56) _=_
                 simp only [Act.put,List.setIfInBounds_toArray,List.set_cons_zero,List.set_cons_succ,i64_w,i32_w]
                 rfl
                refine pure_ (i:=14) (N:=some 57) (v:=?_) (a':=?_) #[true,true,true,true,true,true,true,true,true,true,true,true,true,true,true,true,false] rfl rfl (Mh HT_.out (by kernel_rfl)) (fun _ _ _ h=>h) (Or.inl ⟨by rfl,?_⟩) ?_ ?_
                rotate_left
                ·intro w'
                 go_simp
                 with_reducible rfl
                rotate_left
                ·simp only [Act.put,List.setIfInBounds_toArray,List.set_cons_zero,List.set_cons_succ,i64_w,i32_w]
                 rfl
                exact norm_ (by simp only [putAll,Act.put,List.setIfInBounds_toArray,List.set_cons_zero,List.set_cons_succ]) (hCont (qd) _ ⟨qo,(by(with_reducible repeat(first|apply Mi|apply Mj|apply Mb));exact Kd.R_mono qh.out (fun _ hk=>hk.2)),(by(with_reducible repeat(first|refine blk_drewN ?_ _|refine Mg ?_|refine blk_alloc ?_ _));exact qc.out),qj.out,qq.out,(by repeat(first|(with_reducible first|exact HB.out|apply Mf|apply Md|apply Me|refine below_set ?_ qq.out)|exact HB.out))⟩)
              rintro qd w24 ⟨hS_,h0_,h1_,h2_,h3_,h4_⟩
              have qw:Aside0 (Kd.R k71 71 w24 w.heap.size (fun k_=>k_≠qd) u6 qr):=⟨h0_⟩
              have qx:Aside0 (w24.heap[qd]? = some (.cells #[.string (⟨#[]⟩:ByteArray),.int .i64 0,.int .i64 0] 71 (0,0))):=⟨h1_⟩
              have yc:Aside0 (w.heap.size≤qd):=⟨h2_⟩
              have n3_:Aside0 (w.heap.size≤qd):=⟨h3_⟩
              have n4_:Aside0 (Below w.heap.size w w24):=⟨h4_⟩
              clear qh
              clear HB
              clear h0_ h1_ h2_ h3_ h4_
              have qh:=qw
              have qc:=qx
              have qj:=yc
              have qq:=n3_
              have HB:=n4_
              clear qw qx yc n3_ n4_
              have qo:w24.cell? (ad330.add (qb).toNat)=some (.string (rdOf ByteArray.empty l0 qb))∧w24.cell? (yl.add (qb).toNat)=some (.slice ya (rd_L5 l1 qb).length yb)∧w24.cell? (yl.add (qb).toNat)=some (.slice ya (rd_L5 l1 qb).length yb):=hS_
              refine norm_ (a':=?_) ?_ ?_
              rotate_left
              ·simp only [putAll,Act.put,List.setIfInBounds_toArray,List.set_cons_zero,List.set_cons_succ]
               rfl
              refine one_ (i:=16) (N:=none) #[true,true,true,true,true,true,true,true,true,true,true,true,true,true,true,true,true] rfl rfl (one_of HT_.out (by kernel_rfl)) (by decide) (fun K hK=>?_)
              have hs25:w24.cell? ⟨qd,0,none⟩=some (.string (⟨#[]⟩:ByteArray)):=(blk_cell qc.out 0).trans rfl
              have hfs25:=blk_frozen qc.out 0
              have hs26:w24.cell? ⟨qd,1,none⟩=some (.int .i64 0):=(blk_cell qc.out 1).trans rfl
              have hfs26:=blk_frozen qc.out 1
              have hs27:w24.cell? ⟨qd,2,none⟩=some (.int .i64 0):=(blk_cell qc.out 2).trans rfl
              have hfs27:=blk_frozen qc.out 2
              refine skip_ (w1:=?_) (by rfl) rfl ?_ ?_
              rotate_left
              ·go_simp
               rfl
              refine hK.out _ _ ⟨((cell_far (p:=⟨qd,_,none⟩) (by first|exact Nat.ne_of_lt (Nat.lt_of_lt_of_le (by have:=World.block_lt_of_cell? _ _ ql;first|rwa [Mc] at this|exact this) qj.out)|(rw [Mc];exact Nat.ne_of_lt (Nat.lt_of_lt_of_le (by have:=World.block_lt_of_cell? _ _ ql;first|rwa [Mc] at this|exact this) qj.out))|(show(Addr.add _ _).block≠_;rw [Mc];exact Nat.ne_of_lt (Nat.lt_of_lt_of_le (by have:=World.block_lt_of_cell? _ _ ql;first|rwa [Mc] at this|exact this) qj.out))|(dsimp only;exact Nat.ne_of_lt (Nat.lt_of_lt_of_le (by have:=World.block_lt_of_cell? _ _ ql;first|rwa [Mc] at this|exact this) qj.out))) _).trans (((cell_far (p:=⟨qd,_,none⟩) (by first|exact Nat.ne_of_lt (Nat.lt_of_lt_of_le (by have:=World.block_lt_of_cell? _ _ ql;first|rwa [Mc] at this|exact this) qj.out)|(rw [Mc];exact Nat.ne_of_lt (Nat.lt_of_lt_of_le (by have:=World.block_lt_of_cell? _ _ ql;first|rwa [Mc] at this|exact this) qj.out))|(show(Addr.add _ _).block≠_;rw [Mc];exact Nat.ne_of_lt (Nat.lt_of_lt_of_le (by have:=World.block_lt_of_cell? _ _ ql;first|rwa [Mc] at this|exact this) qj.out))|(dsimp only;exact Nat.ne_of_lt (Nat.lt_of_lt_of_le (by have:=World.block_lt_of_cell? _ _ ql;first|rwa [Mc] at this|exact this) qj.out))) _).trans (((cell_far (p:=⟨qd,_,none⟩) (by first|exact Nat.ne_of_lt (Nat.lt_of_lt_of_le (by have:=World.block_lt_of_cell? _ _ ql;first|rwa [Mc] at this|exact this) qj.out)|(rw [Mc];exact Nat.ne_of_lt (Nat.lt_of_lt_of_le (by have:=World.block_lt_of_cell? _ _ ql;first|rwa [Mc] at this|exact this) qj.out))|(show(Addr.add _ _).block≠_;rw [Mc];exact Nat.ne_of_lt (Nat.lt_of_lt_of_le (by have:=World.block_lt_of_cell? _ _ ql;first|rwa [Mc] at this|exact this) qj.out))|(dsimp only;exact Nat.ne_of_lt (Nat.lt_of_lt_of_le (by have:=World.block_lt_of_cell? _ _ ql;first|rwa [Mc] at this|exact this) qj.out))) _).trans (qo.1)))))),((cell_far (p:=⟨qd,_,none⟩) (by first|exact Nat.ne_of_lt (Nat.lt_of_lt_of_le (by have:=World.block_lt_of_cell? _ _ qm;first|rwa [Mc] at this|exact this) qj.out)|(rw [Mc];exact Nat.ne_of_lt (Nat.lt_of_lt_of_le (by have:=World.block_lt_of_cell? _ _ qm;first|rwa [Mc] at this|exact this) qj.out))|(show(Addr.add _ _).block≠_;rw [Mc];exact Nat.ne_of_lt (Nat.lt_of_lt_of_le (by have:=World.block_lt_of_cell? _ _ qm;first|rwa [Mc] at this|exact this) qj.out))|(dsimp only;exact Nat.ne_of_lt (Nat.lt_of_lt_of_le (by have:=World.block_lt_of_cell? _ _ qm;first|rwa [Mc] at this|exact this) qj.out))) _).trans (((cell_far (p:=⟨qd,_,none⟩) (by first|exact Nat.ne_of_lt (Nat.lt_of_lt_of_le (by have:=World.block_lt_of_cell? _ _ qm;first|rwa [Mc] at this|exact this) qj.out)|(rw [Mc];exact Nat.ne_of_lt (Nat.lt_of_lt_of_le (by have:=World.block_lt_of_cell? _ _ qm;first|rwa [Mc] at this|exact this) qj.out))|(show(Addr.add _ _).block≠_;rw [Mc];exact Nat.ne_of_lt (Nat.lt_of_lt_of_le (by have:=World.block_lt_of_cell? _ _ qm;first|rwa [Mc] at this|exact this) qj.out))|(dsimp only;exact Nat.ne_of_lt (Nat.lt_of_lt_of_le (by have:=World.block_lt_of_cell? _ _ qm;first|rwa [Mc] at this|exact this) qj.out))) _).trans (((cell_far (p:=⟨qd,_,none⟩) (by first|exact Nat.ne_of_lt (Nat.lt_of_lt_of_le (by have:=World.block_lt_of_cell? _ _ qm;first|rwa [Mc] at this|exact this) qj.out)|(rw [Mc];exact Nat.ne_of_lt (Nat.lt_of_lt_of_le (by have:=World.block_lt_of_cell? _ _ qm;first|rwa [Mc] at this|exact this) qj.out))|(show(Addr.add _ _).block≠_;rw [Mc];exact Nat.ne_of_lt (Nat.lt_of_lt_of_le (by have:=World.block_lt_of_cell? _ _ qm;first|rwa [Mc] at this|exact this) qj.out))|(dsimp only;exact Nat.ne_of_lt (Nat.lt_of_lt_of_le (by have:=World.block_lt_of_cell? _ _ qm;first|rwa [Mc] at this|exact this) qj.out))) _).trans (qo.2.1)))))),((cell_far (p:=⟨qd,_,none⟩) (by first|exact Nat.ne_of_lt (Nat.lt_of_lt_of_le (by have:=World.block_lt_of_cell? _ _ qn;first|rwa [Mc] at this|exact this) qj.out)|(rw [Mc];exact Nat.ne_of_lt (Nat.lt_of_lt_of_le (by have:=World.block_lt_of_cell? _ _ qn;first|rwa [Mc] at this|exact this) qj.out))|(show(Addr.add _ _).block≠_;rw [Mc];exact Nat.ne_of_lt (Nat.lt_of_lt_of_le (by have:=World.block_lt_of_cell? _ _ qn;first|rwa [Mc] at this|exact this) qj.out))|(dsimp only;exact Nat.ne_of_lt (Nat.lt_of_lt_of_le (by have:=World.block_lt_of_cell? _ _ qn;first|rwa [Mc] at this|exact this) qj.out))) _).trans (((cell_far (p:=⟨qd,_,none⟩) (by first|exact Nat.ne_of_lt (Nat.lt_of_lt_of_le (by have:=World.block_lt_of_cell? _ _ qn;first|rwa [Mc] at this|exact this) qj.out)|(rw [Mc];exact Nat.ne_of_lt (Nat.lt_of_lt_of_le (by have:=World.block_lt_of_cell? _ _ qn;first|rwa [Mc] at this|exact this) qj.out))|(show(Addr.add _ _).block≠_;rw [Mc];exact Nat.ne_of_lt (Nat.lt_of_lt_of_le (by have:=World.block_lt_of_cell? _ _ qn;first|rwa [Mc] at this|exact this) qj.out))|(dsimp only;exact Nat.ne_of_lt (Nat.lt_of_lt_of_le (by have:=World.block_lt_of_cell? _ _ qn;first|rwa [Mc] at this|exact this) qj.out))) _).trans (((cell_far (p:=⟨qd,_,none⟩) (by first|exact Nat.ne_of_lt (Nat.lt_of_lt_of_le (by have:=World.block_lt_of_cell? _ _ qn;first|rwa [Mc] at this|exact this) qj.out)|(rw [Mc];exact Nat.ne_of_lt (Nat.lt_of_lt_of_le (by have:=World.block_lt_of_cell? _ _ qn;first|rwa [Mc] at this|exact this) qj.out))|(show(Addr.add _ _).block≠_;rw [Mc];exact Nat.ne_of_lt (Nat.lt_of_lt_of_le (by have:=World.block_lt_of_cell? _ _ qn;first|rwa [Mc] at this|exact this) qj.out))|(dsimp only;exact Nat.ne_of_lt (Nat.lt_of_lt_of_le (by have:=World.block_lt_of_cell? _ _ qn;first|rwa [Mc] at this|exact this) qj.out))) _).trans (qo.2.2))))))⟩ (fun qo=>?_)
              clear hK K
              refine done_ (done_of HT_.out (by kernel_rfl)) ?_
              obtain⟨Ao28,co28,eo28⟩:=Kd.R_slice qh.out
              subst eo28
              have hcz29_0:w24.cell? ⟨qd,0,none⟩=some (.string (⟨#[]⟩:ByteArray)):=(blk_cell qc.out 0).trans rfl
              have hcz29_1:w24.cell? ⟨qd,1,none⟩=some (.int .i64 0):=(blk_cell qc.out 1).trans rfl
              have hcz29_2:w24.cell? ⟨qd,2,none⟩=some (.int .i64 0):=(blk_cell qc.out 2).trans rfl
              have hfz29_0:=blk_frozen qc.out 0
              have hfz29_1:=blk_frozen qc.out 1
              have hfz29_2:=blk_frozen qc.out 2
              try go_wp2_with (first|((with_reducible refine gate_builtin (b:=.append) (xs:=#[.tmp 60,.tmp 62]) rfl ?_);(try(refine gate_guard (by rfl) ?_;dsimp only));at_builtin;refine Kd.R_append k71 (w0:=w) w.heap.size rfl (.tmp 60) (.tmp 62) 40 71 (.agg #[(.string ⟨#[]⟩),(.int .i64 0),(.int .i64 0)]) 32 rfl Try.underlying40 info71 rfl (by decide) (by omega) (.slice Ao28 qr.length co28) qr (⟨rdOf ByteArray.empty l0 qb,((rd_L5 l1 qb).length:Int),qv⟩:S71) [.string (rdOf ByteArray.empty l0 qb),.int .i64 ((rd_L5 l1 qb).length:Int),.int .i64 qv] (fun k_=>k_≠qd) (fun _=>False) rfl (by first|(go_simp;done)|(go_simp;rfl)) ?aP (fun _ hk=>hk.elim) ?aF ?aO ?aB ?aS ?aL ?_;(case aP=>exact k71_mkM _ _ _ (⟨rdOf ByteArray.empty l0 qb,((rd_L5 l1 qb).length:Int),qv⟩:S71));(case aB=>exact(by repeat(first|(with_reducible first|exact HB.out|apply Mf|apply Md|apply Me|refine below_set ?_ qq.out)|exact HB.out)));(case aF=>exact(fun k_ hk=>Kd.freshB (g:=qd) (o:=.cells #[.string (rdOf ByteArray.empty l0 qb),.int .i64 ((rd_L5 l1 qb).length:Int),.int .i64 qv] 71 (0,0)) (by(with_reducible repeat(first|refine blk_drewN ?_ _|refine Mg ?_|refine blk_alloc ?_ _));refine blk_put (cs:=#[.string (rdOf ByteArray.empty l0 qb),.int .i64 ((rd_L5 l1 qb).length:Int),.int .i64 0]) ?_ 2 _ rfl;(with_reducible repeat(first|refine blk_drewN ?_ _|refine Mg ?_|refine blk_alloc ?_ _));refine blk_put (cs:=#[.string (rdOf ByteArray.empty l0 qb),.int .i64 0,.int .i64 0]) ?_ 1 _ rfl;(with_reducible repeat(first|refine blk_drewN ?_ _|refine Mg ?_|refine blk_alloc ?_ _));refine blk_put (cs:=#[.string (⟨#[]⟩:ByteArray),.int .i64 0,.int .i64 0]) ?_ 0 _ rfl;(with_reducible repeat(first|refine blk_drewN ?_ _|refine Mg ?_|refine blk_alloc ?_ _));exact qc.out) k_ hk));(case aO=>exact(by(with_reducible repeat(first|apply Mi|apply Mj|apply Mb));exact Kd.R_mono (Kd.R_far (p:=⟨qd,2,none⟩) (Kd.R_far (p:=⟨qd,1,none⟩) (Kd.R_far (p:=⟨qd,0,none⟩) (Kd.R_mono qh.out (fun k_ hk=>(⟨hk,hk⟩:_∧k_≠qd))) (fun _ hk=>hk.2) (.string (rdOf ByteArray.empty l0 qb))) (fun _ hk=>hk.2) (.int .i64 ((rd_L5 l1 qb).length:Int))) (fun _ hk=>hk.2) (.int .i64 qv)) (fun _ hk=>hk.1)));(case aS=>exact(below_size (by repeat(first|(with_reducible first|exact HB.out|apply Mf|apply Md|apply Me|refine below_set ?_ qq.out)|exact HB.out))));(case aL=>have:=LMc21.out;omega);intro v336 w30 ho hb hg hat;rw [← Ny335.out] at ho;have qw:=Ma (blk_grown (g:=qd) (o:=.cells #[.string (rdOf ByteArray.empty l0 qb),.int .i64 ((rd_L5 l1 qb).length:Int),.int .i64 qv] 71 (0,0)) (by(with_reducible repeat(first|refine blk_drewN ?_ _|refine Mg ?_|refine blk_alloc ?_ _));refine blk_put (cs:=#[.string (rdOf ByteArray.empty l0 qb),.int .i64 ((rd_L5 l1 qb).length:Int),.int .i64 0]) ?_ 2 _ rfl;(with_reducible repeat(first|refine blk_drewN ?_ _|refine Mg ?_|refine blk_alloc ?_ _));refine blk_put (cs:=#[.string (rdOf ByteArray.empty l0 qb),.int .i64 0,.int .i64 0]) ?_ 1 _ rfl;(with_reducible repeat(first|refine blk_drewN ?_ _|refine Mg ?_|refine blk_alloc ?_ _));refine blk_put (cs:=#[.string (⟨#[]⟩:ByteArray),.int .i64 0,.int .i64 0]) ?_ 0 _ rfl;(with_reducible repeat(first|refine blk_drewN ?_ _|refine Mg ?_|refine blk_alloc ?_ _));exact qc.out) hg (Kd.R_away qh.out (fun _ hk=>hk)));have qx:=Ma (hb);have yc:=Ma (ho);clear qc;clear HB;clear qh;have qc:=qw;have HB:=qx;have HO337:=yc;clear qw qx yc;clear ho hb hg hat))
              go_loopg [9] kj8 (fun kq v9 w'=>∃ (qg:List (S71)) (qi:Int) (qa:ByteArray) (qe:Int) (qf:Int),v9=.int .i64 qi∧Aside0 (spec_Pack.l1 kq l0 l1 qg qb qi qa qe qf=some (r1,r2))∧Aside0 (kq≤kj8)∧Aside0 (Kd.R k71 71 w' w.heap.size (fun k_=>k_≠qd) v336 qg)∧Aside0 (w'.heap[qd]? = some (.cells #[.string qa,.int .i64 qe,.int .i64 qf] 71 (0,0)))∧Aside0 (Below w.heap.size w w'))
              case atStart=>exact⟨(y335),((qr.length:Int)),(rdOf ByteArray.empty l0 qb),(((rd_L5 l1 qb).length:Int)),(qv),(by first|rfl|(simp;done)|(simp [*];done)),H',⟨Nat.le_refl _⟩,⟨by(with_reducible repeat(first|apply Mi|apply Mj|apply Mb));exact HO337.out⟩,⟨by(with_reducible repeat(first|refine blk_drewN ?_ _|refine Mg ?_|refine blk_alloc ?_ _));exact qc.out⟩,⟨by repeat(first|(with_reducible first|exact HB.out|apply Mf|apply Md|apply Me|refine below_set ?_ qq.out)|exact HB.out)⟩⟩
              case round=>
               clear H'
               try clear c1
               try clear c2
               try clear p2
               try clear c3
               try clear p3
               try clear q3
               try clear hx3
               try clear c5
               try clear c6
               try clear ym
               try clear c6b1
               try clear c6b2
               try clear c7
               try clear c8
               try clear c8b0
               try clear c10
               try clear c10b0
               try clear c12
               try clear c13
               try clear c13b0
               try clear c14
               try clear c17
               try clear c17b0
               try clear c18
               try clear c18b0
               try clear c19
               try clear c19b0
               try clear c21
               try clear hcz29_0
               try clear hcz29_1
               try clear hcz29_2
               try clear hfz29_0
               try clear hfz29_1
               try clear hfz29_2
               try clear qp
               try clear yd
               try clear qy
               try clear qs
               try clear qt
               try clear p2
               try clear p3
               try clear yn
               try clear p326
               try clear p330
               try clear p331
               try clear p332
               try clear q3
               try clear yo
               try clear q326
               try clear q330
               try clear q331
               try clear q332
               obtain⟨qg,qi,qa,qe,qf,rfl,HA,HK4,qh,qc,HB⟩:=hrel
               cases gk with
               | zero => exact absurd HA.out (by simp [spec_Pack.l1])
               | succ k4 =>
                have H:=HA.out
                clear HA
                simp only [spec_Pack.l1] at H
                have HC31:=Ma H
                clear H
                go_upto_region 12 with (fail)
                go_cut [77] (fun v77 wc=>∃ (kq:Nat) (x77_30:Bool),v77=.bool x77_30∧Aside0 (spec_Pack.j4 kq l0 l1 qg qb qi x77_30 qa qe qf=some (r1,r2))∧Aside0 (kq≤k4)∧Aside0 (Kd.R k71 71 wc w.heap.size (fun k_=>k_≠qd) v336 qg)∧Aside0 (wc.heap[qd]? = some (.cells #[.string qa,.int .i64 qe,.int .i64 qf] 71 (0,0)))∧Aside0 (Below w.heap.size w wc))
                case first=>
                 have H:=HC31.out
                 clear HC31
                 by_cases c32:qi > 0
                 ·rw [if_pos c32] at H
                  have yp:decide (0 < qi)=true:=decide_eq_true c32
                  clear c32
                  (first|rw [yp]|(simp only [i64_w,i32_w];rw [yp])|skip)
                  obtain⟨qu,hji33⟩:∃ j_:Int,(wrap64 (qi - 1))=j_:=⟨_,rfl⟩
                  replace H:(if 0≤(qu) then (if (qu) < (qg.length:Int) then ((spec_l15Before.f k4 ((rd_T71 qg (qu)).f0) qa).bind fun t339=>(spec_Pack.j4 k4 l0 l1 qg qb qi (!t339) qa qe qf)) else (none)) else (none))=some (r1,r2):=by first|(rw [hji33] at H;exact H)|(simp only [hji33] at H ⊢;exact H)
                  have hji33w:(IntKind.i64.wrap (qi - 1))=qu:=(i64_w _).trans hji33
                  by_cases c34:0≤(qu)
                  ·rw [if_pos c34] at H
                   have c34b0:decide (0≤(qu))=true:=decide_eq_true c34
                   clear c34
                   by_cases c35:(qu) < (qg.length:Int)
                   ·rw [if_pos c35] at H
                    have c35b0:decide ((qu) < (qg.length:Int))=true:=decide_eq_true c35
                    clear c35
                    replace H:=Option.bind_eq_some_iff.mp H
                    obtain⟨t339,A360,H⟩:=H
                    replace H:(spec_Pack.j4 k4 l0 l1 qg qb qi (!t339) qa qe qf)=some (r1,r2):=H
                    have A36:=Ma A360
                    clear A360
                    have H':=Ma H
                    clear H
                    try go_wp2
                    have qw:=Ma (Mb qh.out)
                    have qx:=Ma (Mg qc.out)
                    have yc:=Ma (Me HB.out)
                    clear qh
                    clear qc
                    clear HB
                    have qh:=qw
                    have qc:=qx
                    have HB:=yc
                    clear qw qx yc
                    obtain⟨Ao38,co38,eo38⟩:=Kd.R_slice qh.out
                    (first|subst eo38|(injection eo38 with f1_ f2_ f3_;have f4_:=f1_.symm;have f5_:=f3_.symm;clear f1_ f2_ f3_;subst f4_;subst f5_))
                    have p338:0≤((qu):Int):=of_decide_eq_true (by first|(with_reducible assumption)|assumption)
                    have q338:(qu) < (qg.length:Int):=of_decide_eq_true (by first|(with_reducible assumption)|assumption)
                    obtain⟨ad338,e338,hx338_0,hx338_1,hx338_2⟩:=at_T71 (Kd.R_reads' qh.out).2.2 (qu) p338 q338
                    cases e338
                    replace p338:=eq_true p338
                    replace q338:=eq_true q338
                    refine start_ (n:=14) (S:=fun w'=>w'.cell? ⟨qd,0,none⟩=some (.string qa)∧w'.cell? ⟨qd,1,none⟩=some (.int .i64 qe)∧w'.cell? ⟨qd,2,none⟩=some (.int .i64 qf)∧w'.cell? (ad338.add (((qu)).toNat*3))=some (.string ((rd_T71 qg (qu)).f0))∧w'.cell? ⟨(ad338.add (((qu)).toNat*3)).block,(ad338.add (((qu)).toNat*3)).off+1,none⟩=some (.int .i64 ((rd_T71 qg (qu)).f1))∧w'.cell? ⟨(ad338.add (((qu)).toNat*3)).block,(ad338.add (((qu)).toNat*3)).off+2,none⟩=some (.int .i64 ((rd_T71 qg (qu)).f2))) (ds:=[]) #[false,false,false,false,false,false,false,false,false,false,false,false,false,false] (by kernel_rfl) rfl rfl ⟨(blk_cell qc.out 0).trans rfl,(blk_cell qc.out 1).trans rfl,(blk_cell qc.out 2).trans rfl,hx338_0,hx338_1,hx338_2⟩ (fun qo=>?_);refine with_tabW spec_Pack.tab12 spec_Pack.bits12 (fun HT_ HW_=>?_)
                    generalize wr.drew=w37 at qh qc HB hx338_0 hx338_1 hx338_2 qo ⊢
                    refine pure_ (i:=0) (N:=some 64) (v:=?_) (a':=?_) #[true,false,false,false,false,false,false,false,false,false,false,false,false,false] rfl rfl (Mh HT_.out (by kernel_rfl)) (fun _ _ _ h=>h) (Or.inl ⟨by rfl,?_⟩) ?_ ?_
                    rotate_left
                    ·intro w'
                     go_simp
                     with_reducible rfl
                    rotate_left
                    ·simp only [Act.put,List.setIfInBounds_toArray,List.set_cons_zero,List.set_cons_succ,i64_w,i32_w]
                     rfl
                    refine pure_ (i:=1) (N:=some 65) (v:=?_) (a':=?_) #[true,true,false,false,false,false,false,false,false,false,false,false,false,false] rfl rfl (Mh HT_.out (by kernel_rfl)) (fun _ _ _ h=>h) (Or.inl ⟨by rfl,?_⟩) ?_ ?_
                    rotate_left
                    ·intro w'
                     go_simp
                     with_reducible rfl
                    rotate_left
                    ·simp only [Act.put,List.setIfInBounds_toArray,List.set_cons_zero,List.set_cons_succ,i64_w,i32_w]
                     rfl
                    refine pure_ (i:=2) (N:=some 66) (v:=?_) (a':=?_) #[true,true,true,false,false,false,false,false,false,false,false,false,false,false] rfl rfl (Mh HT_.out (by kernel_rfl)) (fun _ _ _ h=>h) (Or.inl ⟨by rfl,?_⟩) ?_ ?_
                    rotate_left
                    ·intro w'
                     go_simp
                     with_reducible rfl
                    rotate_left
                    ·simp only [Act.put,List.setIfInBounds_toArray,List.set_cons_zero,List.set_cons_succ,i64_w,i32_w]
                     rfl
                    refine pure_ (i:=3) (N:=some 67) (v:=?_) (a':=?_) #[true,true,true,true,false,false,false,false,false,false,false,false,false,false] rfl rfl (Mh HT_.out (by kernel_rfl)) (fun _ _ _ h=>h) (Or.inl ⟨by rfl,?_⟩) ?_ ?_
                    rotate_left
                    ·intro w'
                     go_simp
                     with_reducible rfl
                    rotate_left
                    ·simp only [Act.put,List.setIfInBounds_toArray,List.set_cons_zero,List.set_cons_succ,i64_w,i32_w]
                     rfl
                    refine pure_ (i:=4) (N:=some 68) (v:=?_) (a':=?_) #[true,true,true,true,true,false,false,false,false,false,false,false,false,false] rfl rfl (Mh HT_.out (by kernel_rfl)) (fun _ _ _ h=>h) (Or.inl ⟨by rfl,?_⟩) ?_ ?_
                    rotate_left
                    ·intro w'
                     go_simp
                     with_reducible rfl
                    rotate_left
                    ·simp only [Act.put,List.setIfInBounds_toArray,List.set_cons_zero,List.set_cons_succ,i64_w,i32_w]
                     rfl
                    refine pure_ (i:=5) (N:=some 69) (v:=?_) (a':=?_) #[true,true,true,true,true,true,false,false,false,false,false,false,false,false] rfl rfl (Mh HT_.out (by kernel_rfl)) (fun _ _ _ h=>h) (Or.inl ⟨by rfl,?_⟩) ?_ ?_
                    rotate_left
                    ·intro w'
                     go_simp
                     with_reducible rfl
                    rotate_left
                    ·simp only [Act.put,List.setIfInBounds_toArray,List.set_cons_zero,List.set_cons_succ,i64_w,i32_w]
                     rfl
                    refine pure_ (i:=6) (N:=some 70) (v:=?_) (a':=?_) #[true,true,true,true,true,true,true,false,false,false,false,false,false,false] rfl rfl (Mh HT_.out (by kernel_rfl)) (fun _ _ _ h=>h) (Or.inl ⟨by rfl,?_⟩) ?_ ?_
                    rotate_left
                    ·intro w'
                     go_simp
                     with_reducible rfl
                    rotate_left
                    ·simp only [Act.put,List.setIfInBounds_toArray,List.set_cons_zero,List.set_cons_succ,i64_w,i32_w]
                     rfl
                    refine pure_ (i:=7) (N:=some 71) (v:=?_) (a':=?_) #[true,true,true,true,true,true,true,true,false,false,false,false,false,false] rfl rfl (Mh HT_.out (by kernel_rfl)) (fun _ _ _ h=>h) (Or.inl ⟨by rfl,?_⟩) ?_ ?_
                    rotate_left
                    ·intro w'
                     go_simp
                     with_reducible rfl
                    rotate_left
                    ·simp only [Act.put,List.setIfInBounds_toArray,List.set_cons_zero,List.set_cons_succ,i64_w,i32_w]
                     rfl
                    refine pure_ (i:=9) (N:=some 73) (v:=?_) (a':=?_) #[true,true,true,true,true,true,true,true,false,true,false,false,false,false] rfl rfl (Mh HT_.out (by kernel_rfl)) (fun _ _ _ h=>h) (Or.inl ⟨by rfl,?_⟩) ?_ ?_
                    rotate_left
                    ·intro w'
                     go_simp
                     with_reducible rfl
                    rotate_left
                    ·simp only [Act.put,List.setIfInBounds_toArray,List.set_cons_zero,List.set_cons_succ,i64_w,i32_w]
                     rfl
                    refine take_ (i:=8) (N:=some 72) (v:=?_) (a':=?_) #[true,true,true,true,true,true,true,true,true,true,false,false,false,false] rfl rfl (take_ofW HT_.out HW_.out (by kernel_rfl)) (fun _ _ _ h=>h) (Or.inl ⟨by rfl,?_⟩) qo ?_ ?_
                    rotate_left
                    ·rintro w' ⟨s0,s1,s2,s3,s4,s5⟩
                     go_simp
                     with_reducible rfl
                    rotate_left
                    ·simp only [Act.put,List.setIfInBounds_toArray,List.set_cons_zero,List.set_cons_succ,i64_w,i32_w]
                     rfl
                    refine take_ (i:=10) (N:=some 74) (v:=?_) (a':=?_) #[true,true,true,true,true,true,true,true,true,true,true,false,false,false] rfl rfl (take_ofW HT_.out HW_.out (by kernel_rfl)) (fun _ _ _ h=>h) (Or.inl ⟨by rfl,?_⟩) qo ?_ ?_
                    rotate_left
                    ·rintro w' ⟨s0,s1,s2,s3,s4,s5⟩
                     go_simp
                     with_reducible rfl
                    rotate_left
                    ·simp only [Act.put,List.setIfInBounds_toArray,List.set_cons_zero,List.set_cons_succ,i64_w,i32_w]
                     rfl
                    refine one_ (i:=11) (N:=some 75) #[true,true,true,true,true,true,true,true,true,true,true,true,false,false] rfl rfl (one_of HT_.out (by kernel_rfl)) (by decide) (fun K hK=>?_)
                    refine goes_ Try.func60 (by kernel_rfl) rfl #[.string ((rd_T71 qg (qu)).f0),.string qa] (by rfl) rfl rfl (by(try simp only [List.map_toArray,List.map_cons,List.map_nil]);first|done|(simp only [hji33];rfl)|rfl|(simp only [List.length_drop,List.length_take];rfl)) ?_
                    with_reducible refine(spec_l15Before.calls k4 ((rd_T71 qg (qu)).f0) qa t339 _ A36.out).mono ?_
                    rintro e w' ⟨rfl,⟨nd,rfl⟩⟩
                    refine⟨_,rfl,?_⟩
                    refine hK.out _ _ ⟨(blk_cell qc.out 0).trans rfl,(blk_cell qc.out 1).trans rfl,(blk_cell qc.out 2).trans rfl,qo.2.2.2.1,qo.2.2.2.2.1,qo.2.2.2.2.2⟩ (fun qo=>?_)
                    clear hK K
                    refine norm_ (a':=?_) ?_ ?_
                    rotate_left
                    ·show Act.put _ (some 75) _=_
                     simp only [Act.put,List.setIfInBounds_toArray,List.set_cons_zero,List.set_cons_succ,i64_w,i32_w]
                     rfl
                    refine pure_ (i:=12) (N:=some 76) (v:=?_) (a':=?_) #[true,true,true,true,true,true,true,true,true,true,true,true,true,false] rfl rfl (Mh HT_.out (by kernel_rfl)) (fun _ _ _ h=>h) (Or.inl ⟨by rfl,?_⟩) ?_ ?_
                    rotate_left
                    ·intro w'
                     go_simp
                     with_reducible rfl
                    rotate_left
                    ·simp only [Act.put,List.setIfInBounds_toArray,List.set_cons_zero,List.set_cons_succ,i64_w,i32_w]
                     rfl
                    refine pure_ (i:=13) (N:=some 77) (v:=?_) (a':=?_) #[true,true,true,true,true,true,true,true,true,true,true,true,true,true] rfl rfl (Mh HT_.out (by kernel_rfl)) (fun _ _ _ h=>h) (Or.inl ⟨by rfl,?_⟩) ?_ ?_
                    rotate_left
                    ·intro w'
                     go_simp
                     with_reducible rfl
                    rotate_left
                    ·simp only [Act.put,List.setIfInBounds_toArray,List.set_cons_zero,List.set_cons_succ,i64_w,i32_w]
                     rfl
                    refine done_ (done_of HT_.out (by kernel_rfl)) ?_
                    try go_wp2
                    go_meet
                    case rel=>exact⟨_,(!t339),(by first|rfl|(simp;done)|(simp [*];done)),H',⟨by have:=HJ2.out;have:=HK2.out;have:=HJ8.out;have:=HK4.out;first|omega|exact Nat.le_refl _⟩,⟨by(with_reducible repeat(first|apply Mi|apply Mj|apply Mb));exact qh.out⟩,⟨by(with_reducible repeat(first|refine blk_drewN ?_ _|refine Mg ?_|refine blk_alloc ?_ _));exact qc.out⟩,⟨by repeat(first|(with_reducible first|exact HB.out|apply Mf|apply Md|apply Me|refine below_set ?_ qq.out)|exact HB.out)⟩⟩
                   ·rw [if_neg c35] at H
                    exact absurd H (by simp)
                  ·rw [if_neg c34] at H
                   exact absurd H (by simp)
                 ·rw [if_neg c32] at H
                  have yp:decide (0 < qi)=false:=decide_eq_false c32
                  clear c32
                  (first|rw [yp]|(simp only [i64_w,i32_w];rw [yp])|skip)
                  have H':=Ma H
                  clear H
                  try go_wp2
                  have qw:=Ma (Mb qh.out)
                  have qx:=Ma (Mg qc.out)
                  have yc:=Ma (Me HB.out)
                  clear qh
                  clear qc
                  clear HB
                  have qh:=qw
                  have qc:=qx
                  have HB:=yc
                  clear qw qx yc
                  refine start_ (n:=14) (S:=fun w'=>True) (ds:=[]) #[false,false,false,false,false,false,false,false,false,false,false,false,false,false] (by kernel_rfl) rfl rfl trivial (fun qo=>?_);refine with_tabW spec_Pack.tab12 spec_Pack.bits12 (fun HT_ HW_=>?_)
                  generalize wr.drew=w39 at qh qc HB qo ⊢
                  refine pure_ (i:=0) (N:=some 64) (v:=?_) (a':=?_) #[true,false,false,false,false,false,false,false,false,false,false,false,false,false] rfl rfl (Mh HT_.out (by kernel_rfl)) (fun _ _ _ h=>h) (Or.inl ⟨by rfl,?_⟩) ?_ ?_
                  rotate_left
                  ·intro w'
                   go_simp
                   with_reducible rfl
                  rotate_left
                  ·simp only [Act.put,List.setIfInBounds_toArray,List.set_cons_zero,List.set_cons_succ,i64_w,i32_w]
                   rfl
                  refine pure_ (i:=1) (N:=some 65) (v:=?_) (a':=?_) #[true,true,false,false,false,false,false,false,false,false,false,false,false,false] rfl rfl (Mh HT_.out (by kernel_rfl)) (fun _ _ _ h=>h) (Or.inl ⟨by rfl,?_⟩) ?_ ?_
                  rotate_left
                  ·intro w'
                   go_simp
                   with_reducible rfl
                  rotate_left
                  ·simp only [Act.put,List.setIfInBounds_toArray,List.set_cons_zero,List.set_cons_succ,i64_w,i32_w]
                   rfl
                  refine pure_ (i:=2) (N:=some 66) (v:=?_) (a':=?_) #[true,true,true,false,false,false,false,false,false,false,false,false,false,false] rfl rfl (Mh HT_.out (by kernel_rfl)) (fun _ _ _ h=>h) (Or.inl ⟨by rfl,?_⟩) ?_ ?_
                  rotate_left
                  ·intro w'
                   go_simp
                   with_reducible rfl
                  rotate_left
                  ·simp only [Act.put,List.setIfInBounds_toArray,List.set_cons_zero,List.set_cons_succ,i64_w,i32_w]
                   rfl
                  refine pure_ (i:=3) (N:=some 67) (v:=undef) (a':=?_) #[true,true,true,true,false,false,false,false,false,false,false,false,false,false] rfl rfl (Mh HT_.out (by kernel_rfl)) (fun _ _ _ h=>h) (Or.inr ⟨by rfl,rfl⟩) ?_ ?_
                  rotate_left
                  ·simp only [Act.put,List.setIfInBounds_toArray,List.set_cons_zero,List.set_cons_succ,i64_w,i32_w]
                   rfl
                  refine pure_ (i:=4) (N:=some 68) (v:=undef) (a':=?_) #[true,true,true,true,true,false,false,false,false,false,false,false,false,false] rfl rfl (Mh HT_.out (by kernel_rfl)) (fun _ _ _ h=>h) (Or.inr ⟨by rfl,rfl⟩) ?_ ?_
                  rotate_left
                  ·simp only [Act.put,List.setIfInBounds_toArray,List.set_cons_zero,List.set_cons_succ,i64_w,i32_w]
                   rfl
                  refine pure_ (i:=5) (N:=some 69) (v:=undef) (a':=?_) #[true,true,true,true,true,true,false,false,false,false,false,false,false,false] rfl rfl (Mh HT_.out (by kernel_rfl)) (fun _ _ _ h=>h) (Or.inr ⟨by rfl,rfl⟩) ?_ ?_
                  rotate_left
                  ·simp only [Act.put,List.setIfInBounds_toArray,List.set_cons_zero,List.set_cons_succ,i64_w,i32_w]
                   rfl
                  refine pure_ (i:=6) (N:=some 70) (v:=undef) (a':=?_) #[true,true,true,true,true,true,true,false,false,false,false,false,false,false] rfl rfl (Mh HT_.out (by kernel_rfl)) (fun _ _ _ h=>h) (Or.inr ⟨by rfl,rfl⟩) ?_ ?_
                  rotate_left
                  ·simp only [Act.put,List.setIfInBounds_toArray,List.set_cons_zero,List.set_cons_succ,i64_w,i32_w]
                   rfl
                  refine pure_ (i:=7) (N:=some 71) (v:=undef) (a':=?_) #[true,true,true,true,true,true,true,true,false,false,false,false,false,false] rfl rfl (Mh HT_.out (by kernel_rfl)) (fun _ _ _ h=>h) (Or.inr ⟨by rfl,rfl⟩) ?_ ?_
                  rotate_left
                  ·simp only [Act.put,List.setIfInBounds_toArray,List.set_cons_zero,List.set_cons_succ,i64_w,i32_w]
                   rfl
                  refine pure_ (i:=8) (N:=some 72) (v:=undef) (a':=?_) #[true,true,true,true,true,true,true,true,true,false,false,false,false,false] rfl rfl (Mh HT_.out (by kernel_rfl)) (fun _ _ _ h=>h) (Or.inr ⟨by rfl,rfl⟩) ?_ ?_
                  rotate_left
                  ·simp only [Act.put,List.setIfInBounds_toArray,List.set_cons_zero,List.set_cons_succ,i64_w,i32_w]
                   rfl
                  refine pure_ (i:=9) (N:=some 73) (v:=undef) (a':=?_) #[true,true,true,true,true,true,true,true,true,true,false,false,false,false] rfl rfl (Mh HT_.out (by kernel_rfl)) (fun _ _ _ h=>h) (Or.inr ⟨by rfl,rfl⟩) ?_ ?_
                  rotate_left
                  ·simp only [Act.put,List.setIfInBounds_toArray,List.set_cons_zero,List.set_cons_succ,i64_w,i32_w]
                   rfl
                  refine pure_ (i:=10) (N:=some 74) (v:=undef) (a':=?_) #[true,true,true,true,true,true,true,true,true,true,true,false,false,false] rfl rfl (Mh HT_.out (by kernel_rfl)) (fun _ _ _ h=>h) (Or.inr ⟨by rfl,rfl⟩) ?_ ?_
                  rotate_left
                  ·simp only [Act.put,List.setIfInBounds_toArray,List.set_cons_zero,List.set_cons_succ,i64_w,i32_w]
                   rfl
                  refine pure_ (i:=11) (N:=some 75) (v:=undef) (a':=?_) #[true,true,true,true,true,true,true,true,true,true,true,true,false,false] rfl rfl (Mh HT_.out (by kernel_rfl)) (fun _ _ _ h=>h) (Or.inr ⟨by rfl,rfl⟩) ?_ ?_
                  rotate_left
                  ·simp only [Act.put,List.setIfInBounds_toArray,List.set_cons_zero,List.set_cons_succ,i64_w,i32_w]
                   rfl
                  refine pure_ (i:=12) (N:=some 76) (v:=undef) (a':=?_) #[true,true,true,true,true,true,true,true,true,true,true,true,true,false] rfl rfl (Mh HT_.out (by kernel_rfl)) (fun _ _ _ h=>h) (Or.inr ⟨by rfl,rfl⟩) ?_ ?_
                  rotate_left
                  ·simp only [Act.put,List.setIfInBounds_toArray,List.set_cons_zero,List.set_cons_succ,i64_w,i32_w]
                   rfl
                  refine pure_ (i:=13) (N:=some 77) (v:=?_) (a':=?_) #[true,true,true,true,true,true,true,true,true,true,true,true,true,true] rfl rfl (Mh HT_.out (by kernel_rfl)) (fun _ _ _ h=>h) (Or.inl ⟨by rfl,?_⟩) ?_ ?_
                  rotate_left
                  ·intro w'
                   go_simp
                   with_reducible rfl
                  rotate_left
                  ·simp only [Act.put,List.setIfInBounds_toArray,List.set_cons_zero,List.set_cons_succ,i64_w,i32_w]
                   rfl
                  refine done_ (done_of HT_.out (by kernel_rfl)) ?_
                  try go_wp2
                  go_meet
                  case rel=>exact⟨_,(false),(by first|rfl|(simp;done)|(simp [*];done)),H',⟨by have:=HJ2.out;have:=HK2.out;have:=HJ8.out;have:=HK4.out;first|omega|exact Nat.le_refl _⟩,⟨by(with_reducible repeat(first|apply Mi|apply Mj|apply Mb));exact qh.out⟩,⟨by(with_reducible repeat(first|refine blk_drewN ?_ _|refine Mg ?_|refine blk_alloc ?_ _));exact qc.out⟩,⟨by repeat(first|(with_reducible first|exact HB.out|apply Mf|apply Md|apply Me|refine below_set ?_ qq.out)|exact HB.out)⟩⟩
                case rest=>
                 clear HC31
                 try clear c1
                 try clear c2
                 try clear p2
                 try clear c3
                 try clear p3
                 try clear q3
                 try clear hx3
                 try clear c5
                 try clear c6
                 try clear ym
                 try clear c6b1
                 try clear c6b2
                 try clear p6
                 try clear c7
                 try clear c8
                 try clear c8b0
                 try clear c10
                 try clear c10b0
                 try clear c12
                 try clear c13
                 try clear c13b0
                 try clear c14
                 try clear c17
                 try clear c17b0
                 try clear c18
                 try clear c18b0
                 try clear c19
                 try clear c19b0
                 try clear c21
                 try clear c32
                 try clear yp
                 try clear p32
                 try clear q32
                 try clear hx32
                 try clear c33
                 try clear p33
                 try clear q33
                 try clear hx33
                 try clear c34
                 try clear c34b0
                 try clear c35
                 try clear c35b0
                 try clear hcz29_0
                 try clear hcz29_1
                 try clear hcz29_2
                 try clear hfz29_0
                 try clear hfz29_1
                 try clear hfz29_2
                 try clear qp
                 try clear yd
                 try clear qy
                 try clear qs
                 try clear qt
                 try clear hx338_0
                 try clear hx338_1
                 try clear hx338_2
                 try clear p2
                 try clear p3
                 try clear yn
                 try clear p326
                 try clear p330
                 try clear p331
                 try clear p332
                 try clear p338
                 try clear q3
                 try clear yo
                 try clear q326
                 try clear q330
                 try clear q331
                 try clear q332
                 try clear q338
                 obtain⟨kq,x77_30,rfl,HA,HJ30,qh,qc,HB⟩:=hcut
                 cases kq with
                 | zero => exact absurd HA.out (by simp [spec_Pack.j4])
                 | succ kj30 =>
                  have H:=HA.out
                  clear HA
                  simp only [spec_Pack.j4] at H
                  by_cases c40:x77_30=true
                  ·subst c40
                   have H1:(if 0≤(wrap64 (qi - 1)) then (if (wrap64 (qi - 1)) < (qg.length:Int) then (if ((rd_T71 qg (wrap64 (qi - 1))).f0).toList=qa.toList then (some ((([]:List (S71))),false)) else (if 0≤qi then (if qi < (qg.length:Int) then (spec_Pack.l1 kj30 l0 l1 (qg.set (qi:Int).toNat (⟨(rd_T71 qg (wrap64 (qi - 1))).f0,(rd_T71 qg (wrap64 (qi - 1))).f1,(rd_T71 qg (wrap64 (qi - 1))).f2⟩:S71)) qb (wrap64 (qi - 1)) qa qe qf) else (none)) else (none))) else (none)) else (none))=some (r1,r2):=by rw [if_pos rfl] at H;exact H
                   clear H
                   have H:=H1
                   clear H1
                   obtain⟨qk,hji41⟩:∃ j_:Int,(wrap64 (qi - 1))=j_:=⟨_,rfl⟩
                   replace H:(if 0≤(qk) then (if (qk) < (qg.length:Int) then (if ((rd_T71 qg (qk)).f0).toList=qa.toList then (some ((([]:List (S71))),false)) else (if 0≤qi then (if qi < (qg.length:Int) then (spec_Pack.l1 kj30 l0 l1 (qg.set (qi:Int).toNat (⟨(rd_T71 qg (qk)).f0,(rd_T71 qg (qk)).f1,(rd_T71 qg (qk)).f2⟩:S71)) qb qk qa qe qf) else (none)) else (none))) else (none)) else (none))=some (r1,r2):=by first|(rw [hji41] at H;exact H)|(simp only [hji41] at H ⊢;exact H)
                   have hji41w:(IntKind.i64.wrap (qi - 1))=qk:=(i64_w _).trans hji41
                   by_cases c42:0≤(qk)
                   ·rw [if_pos c42] at H
                    have c42b0:decide (0≤(qk))=true:=decide_eq_true c42
                    clear c42
                    by_cases c43:(qk) < (qg.length:Int)
                    ·rw [if_pos c43] at H
                     have c43b0:decide ((qk) < (qg.length:Int))=true:=decide_eq_true c43
                     clear c43
                     by_cases c44:((rd_T71 qg (qk)).f0).toList=qa.toList
                     ·rw [if_pos c44] at H
                      have c44b0:(((rd_T71 qg (qk)).f0).toList == qa.toList)=true:=beq_iff_eq.mpr c44
                      have c44b1:(((rd_T71 qg (qk)).f0).toList != qa.toList)=false:=bne_eq_false_iff_eq.mpr c44
                      clear c44
                      obtain⟨y341,hy341⟩:∃ y_:List (S71),y_=(([]:List (S71))):=⟨_,rfl⟩
                      replace H:(some (y341,false))=some (r1,r2):=by first|(rw [hy341];with_reducible exact H)|(have yk:=(Option.bind_some _ _).symm.trans H;rw [hy341];with_reducible exact yk)|(have yk:=(Option.bind_some _ _).symm.trans H;with_reducible exact yk)|with_reducible exact H|(rw [hy341];exact H)|exact H
                      have Ny341:=Ma hy341
                      clear hy341
                      simp only [Option.some.injEq,Prod.mk.injEq] at H
                      obtain⟨rfl,rfl⟩:=H
                      try go_wp2
                      have qw:=Ma (Mb qh.out)
                      have qx:=Ma (Mg qc.out)
                      have yc:=Ma (Me HB.out)
                      clear qh
                      clear qc
                      clear HB
                      have qh:=qw
                      have qc:=qx
                      have HB:=yc
                      clear qw qx yc
                      obtain⟨Ao46,co46,eo46⟩:=Kd.R_slice qh.out
                      (first|subst eo46|(injection eo46 with f1_ f2_ f3_;have f4_:=f1_.symm;have f5_:=f3_.symm;clear f1_ f2_ f3_;subst f4_;subst f5_))
                      have p340:0≤((qk):Int):=of_decide_eq_true (by first|(with_reducible assumption)|assumption)
                      have q340:(qk) < (qg.length:Int):=of_decide_eq_true (by first|(with_reducible assumption)|assumption)
                      obtain⟨qz,e340,ye,yf,yg⟩:=at_T71 (Kd.R_reads' qh.out).2.2 (qk) p340 q340
                      cases e340
                      replace p340:=eq_true p340
                      replace q340:=eq_true q340
                      refine start_ (n:=9) (S:=fun w'=>w'.cell? ⟨qd,0,none⟩=some (.string qa)∧w'.cell? ⟨qd,1,none⟩=some (.int .i64 qe)∧w'.cell? ⟨qd,2,none⟩=some (.int .i64 qf)∧w'.cell? (qz.add (((qk)).toNat*3))=some (.string ((rd_T71 qg (qk)).f0))∧w'.cell? ⟨(qz.add (((qk)).toNat*3)).block,(qz.add (((qk)).toNat*3)).off+1,none⟩=some (.int .i64 ((rd_T71 qg (qk)).f1))∧w'.cell? ⟨(qz.add (((qk)).toNat*3)).block,(qz.add (((qk)).toNat*3)).off+2,none⟩=some (.int .i64 ((rd_T71 qg (qk)).f2))) (ds:=[]) #[false,false,false,false,false,false,false,false,false] (by kernel_rfl) rfl rfl ⟨(blk_cell qc.out 0).trans rfl,(blk_cell qc.out 1).trans rfl,(blk_cell qc.out 2).trans rfl,ye,yf,yg⟩ (fun qo=>?_);refine with_tabW spec_Pack.tab13 spec_Pack.bits13 (fun HT_ HW_=>?_)
                      generalize wc.drew=w45 at qh qc HB ye yf yg qo ⊢
                      refine pure_ (i:=0) (N:=some 78) (v:=?_) (a':=?_) #[true,false,false,false,false,false,false,false,false] rfl rfl (Mh HT_.out (by kernel_rfl)) (fun _ _ _ h=>h) (Or.inl ⟨by rfl,?_⟩) ?_ ?_
                      rotate_left
                      ·intro w'
                       go_simp
                       with_reducible rfl
                      rotate_left
                      ·simp only [Act.put,List.setIfInBounds_toArray,List.set_cons_zero,List.set_cons_succ,i64_w,i32_w]
                       rfl
                      refine pure_ (i:=1) (N:=some 79) (v:=?_) (a':=?_) #[true,true,false,false,false,false,false,false,false] rfl rfl (Mh HT_.out (by kernel_rfl)) (fun _ _ _ h=>h) (Or.inl ⟨by rfl,?_⟩) ?_ ?_
                      rotate_left
                      ·intro w'
                       go_simp
                       with_reducible rfl
                      rotate_left
                      ·simp only [Act.put,List.setIfInBounds_toArray,List.set_cons_zero,List.set_cons_succ,i64_w,i32_w]
                       rfl
                      refine pure_ (i:=2) (N:=some 80) (v:=?_) (a':=?_) #[true,true,true,false,false,false,false,false,false] rfl rfl (Mh HT_.out (by kernel_rfl)) (fun _ _ _ h=>h) (Or.inl ⟨by rfl,?_⟩) ?_ ?_
                      rotate_left
                      ·intro w'
                       go_simp
                       with_reducible rfl
                      rotate_left
                      ·simp only [Act.put,List.setIfInBounds_toArray,List.set_cons_zero,List.set_cons_succ,i64_w,i32_w]
                       rfl
                      refine pure_ (i:=3) (N:=some 81) (v:=?_) (a':=?_) #[true,true,true,true,false,false,false,false,false] rfl rfl (Mh HT_.out (by kernel_rfl)) (fun _ _ _ h=>h) (Or.inl ⟨by rfl,?_⟩) ?_ ?_
                      rotate_left
                      ·intro w'
                       go_simp
                       with_reducible rfl
                      rotate_left
                      ·simp only [Act.put,List.setIfInBounds_toArray,List.set_cons_zero,List.set_cons_succ,i64_w,i32_w]
                       rfl
                      refine pure_ (i:=4) (N:=some 82) (v:=?_) (a':=?_) #[true,true,true,true,true,false,false,false,false] rfl rfl (Mh HT_.out (by kernel_rfl)) (fun _ _ _ h=>h) (Or.inl ⟨by rfl,?_⟩) ?_ ?_
                      rotate_left
                      ·intro w'
                       go_simp
                       with_reducible rfl
                      rotate_left
                      ·simp only [Act.put,List.setIfInBounds_toArray,List.set_cons_zero,List.set_cons_succ,i64_w,i32_w]
                       rfl
                      refine pure_ (i:=6) (N:=some 84) (v:=?_) (a':=?_) #[true,true,true,true,true,false,true,false,false] rfl rfl (Mh HT_.out (by kernel_rfl)) (fun _ _ _ h=>h) (Or.inl ⟨by rfl,?_⟩) ?_ ?_
                      rotate_left
                      ·intro w'
                       go_simp
                       with_reducible rfl
                      rotate_left
                      ·simp only [Act.put,List.setIfInBounds_toArray,List.set_cons_zero,List.set_cons_succ,i64_w,i32_w]
                       rfl
                      refine take_ (i:=5) (N:=some 83) (v:=?_) (a':=?_) #[true,true,true,true,true,true,true,false,false] rfl rfl (take_ofW HT_.out HW_.out (by kernel_rfl)) (fun _ _ _ h=>h) (Or.inl ⟨by rfl,?_⟩) qo ?_ ?_
                      rotate_left
                      ·rintro w' ⟨s0,s1,s2,s3,s4,s5⟩
                       go_simp
                       with_reducible rfl
                      rotate_left
                      ·simp only [Act.put,List.setIfInBounds_toArray,List.set_cons_zero,List.set_cons_succ,i64_w,i32_w]
                       rfl
                      refine take_ (i:=7) (N:=some 85) (v:=?_) (a':=?_) #[true,true,true,true,true,true,true,true,false] rfl rfl (take_ofW HT_.out HW_.out (by kernel_rfl)) (fun _ _ _ h=>h) (Or.inl ⟨by rfl,?_⟩) qo ?_ ?_
                      rotate_left
                      ·rintro w' ⟨s0,s1,s2,s3,s4,s5⟩
                       go_simp
                       with_reducible rfl
                      rotate_left
                      ·simp only [Act.put,List.setIfInBounds_toArray,List.set_cons_zero,List.set_cons_succ,i64_w,i32_w]
                       rfl
                      refine pure_ (i:=8) (N:=some 86) (v:=?_) (a':=?_) #[true,true,true,true,true,true,true,true,true] rfl rfl (Mh HT_.out (by kernel_rfl)) (fun _ _ _ h=>h) (Or.inl ⟨by rfl,?_⟩) ?_ ?_
                      rotate_left
                      ·intro w'
                       go_simp
                       with_reducible rfl
                      rotate_left
                      ·simp only [Act.put,List.setIfInBounds_toArray,List.set_cons_zero,List.set_cons_succ,i64_w,i32_w]
                       rfl
                      refine done_ (done_of HT_.out (by kernel_rfl)) ?_
                      try go_wp2_with (first|((with_reducible refine gate_dst (N:=87) rfl ?_);(try(refine gate_guard (by rfl) ?_;dsimp only));refine Kd.R_lit k71 _ 71 ?hg (N:=87) ?hd (xs:=([]:List (S71))) (inner:=[]) (ok:=fun _=>True) (okp:=fun _=>True) ?hr ?hp (fun _ hk=>hk) trivial (Below.refl _ _) (Nat.le_refl _) (by simp) ?_;(case hd=>rfl);(case hg=>rfl);(case hr=>first|(go_simp;done)|(go_simp;rfl));(case hp=>exact(Reps.none _ _));intro v342 w47 ho48 hb hg_ hnew_;clear hg_ hnew_;(first|rw [← Ny341.out] at ho48|(simp only [Int.reduceToNat] at ho48;rw [← Ny341.out] at ho48));have qw:=Ma (Kd.R_elder' (by(with_reducible repeat(first|apply Mi|apply Mj|apply Mb));exact qh.out) (Kd.R_base ho48) hb);have qx:=Ma (Kd.R_lower (Kd.R_newB (Kd.R_new' ho48 (Kd.R_lt (by(with_reducible repeat(first|apply Mi|apply Mj|apply Mb));exact qh.out))) (g:=qd) (o:=.cells #[.string qa,.int .i64 qe,.int .i64 qf] 71 (0,0)) (by(with_reducible repeat(first|refine blk_drewN ?_ _|refine Mg ?_|refine blk_alloc ?_ _));exact qc.out)) (below_size (by repeat(first|(with_reducible first|exact HB.out|apply Mf|apply Md|apply Me|refine below_set ?_ qq.out)|exact HB.out))));have yc:=Ma (blk_below (g:=qd) (o:=.cells #[.string qa,.int .i64 qe,.int .i64 qf] 71 (0,0)) (by(with_reducible repeat(first|refine blk_drewN ?_ _|refine Mg ?_|refine blk_alloc ?_ _));exact qc.out) hb);have n3_:=Ma (below_step (by repeat(first|(with_reducible first|exact HB.out|apply Mf|apply Md|apply Me|refine below_set ?_ qq.out)|exact HB.out)) hb);clear qh;clear qc;clear HB;have qh:=qw;have HO343:=qx;have qc:=yc;have HB:=n3_;clear qw qx yc n3_;clear hb ho48))
                      go_ret2
                      exact⟨_,by first|rfl|(simp [errW_none,errW_some] <;> rfl)|(simp only [← hji41];first|rfl|(simp [errW_none,errW_some] <;> rfl))|(simp [*,errW_none,errW_some] <;> rfl),by(with_reducible repeat(first|apply Mi|apply Mj|apply Mb));exact Kd.R_mono HO343.out (fun _ hk=>trivial),by repeat(first|(with_reducible first|exact HB.out|apply Mf|apply Md|apply Me|refine below_set ?_ qq.out)|exact HB.out)⟩
                     ·rw [if_neg c44] at H
                      have c44b0:(((rd_T71 qg (qk)).f0).toList == qa.toList)=false:=beq_eq_false_iff_ne.mpr c44
                      have c44b1:(((rd_T71 qg (qk)).f0).toList != qa.toList)=true:=bne_iff_ne.mpr c44
                      by_cases c49:0≤qi
                      ·rw [if_pos c49] at H
                       have c49b0:decide (0≤qi)=true:=decide_eq_true c49
                       clear c49
                       by_cases c50:qi < (qg.length:Int)
                       ·rw [if_pos c50] at H
                        have c50b0:decide (qi < (qg.length:Int))=true:=decide_eq_true c50
                        clear c50
                        obtain⟨y345,hy345⟩:∃ y_:List (S71),y_=(qg.set (qi:Int).toNat (⟨(rd_T71 qg (qk)).f0,(rd_T71 qg (qk)).f1,(rd_T71 qg (qk)).f2⟩:S71)):=⟨_,rfl⟩
                        replace H:(spec_Pack.l1 kj30 l0 l1 y345 qb qk qa qe qf)=some (r1,r2):=by first|(rw [hy345];with_reducible exact H)|(have yk:=(Option.bind_some _ _).symm.trans H;rw [hy345];with_reducible exact yk)|(have yk:=(Option.bind_some _ _).symm.trans H;with_reducible exact yk)|with_reducible exact H|(rw [hy345];exact H)|exact H
                        have Ny345:=Ma hy345
                        clear hy345
                        have H':=Ma H
                        clear H
                        try go_wp2
                        have qw:=Ma (Mb qh.out)
                        have qx:=Ma (Mg qc.out)
                        have yc:=Ma (Me HB.out)
                        clear qh
                        clear qc
                        clear HB
                        have qh:=qw
                        have qc:=qx
                        have HB:=yc
                        clear qw qx yc
                        obtain⟨Ao53,co53,eo53⟩:=Kd.R_slice qh.out
                        (first|subst eo53|(injection eo53 with f1_ f2_ f3_;have f4_:=f1_.symm;have f5_:=f3_.symm;clear f1_ f2_ f3_;subst f4_;subst f5_))
                        have p340:0≤((qk):Int):=of_decide_eq_true (by first|(with_reducible assumption)|assumption)
                        have q340:(qk) < (qg.length:Int):=of_decide_eq_true (by first|(with_reducible assumption)|assumption)
                        obtain⟨qz,e340,ye,yf,yg⟩:=at_T71 (Kd.R_reads' qh.out).2.2 (qk) p340 q340
                        cases e340
                        replace p340:=eq_true p340
                        replace q340:=eq_true q340
                        refine start_ (n:=9) (S:=fun w'=>w'.cell? ⟨qd,0,none⟩=some (.string qa)∧w'.cell? ⟨qd,1,none⟩=some (.int .i64 qe)∧w'.cell? ⟨qd,2,none⟩=some (.int .i64 qf)∧w'.cell? (qz.add (((qk)).toNat*3))=some (.string ((rd_T71 qg (qk)).f0))∧w'.cell? ⟨(qz.add (((qk)).toNat*3)).block,(qz.add (((qk)).toNat*3)).off+1,none⟩=some (.int .i64 ((rd_T71 qg (qk)).f1))∧w'.cell? ⟨(qz.add (((qk)).toNat*3)).block,(qz.add (((qk)).toNat*3)).off+2,none⟩=some (.int .i64 ((rd_T71 qg (qk)).f2))) (ds:=[]) #[false,false,false,false,false,false,false,false,false] (by kernel_rfl) rfl rfl ⟨(blk_cell qc.out 0).trans rfl,(blk_cell qc.out 1).trans rfl,(blk_cell qc.out 2).trans rfl,ye,yf,yg⟩ (fun qo=>?_);refine with_tabW spec_Pack.tab13 spec_Pack.bits13 (fun HT_ HW_=>?_)
                        generalize wc.drew=w52 at qh qc HB ye yf yg qo ⊢
                        refine pure_ (i:=0) (N:=some 78) (v:=?_) (a':=?_) #[true,false,false,false,false,false,false,false,false] rfl rfl (Mh HT_.out (by kernel_rfl)) (fun _ _ _ h=>h) (Or.inl ⟨by rfl,?_⟩) ?_ ?_
                        rotate_left
                        ·intro w'
                         go_simp
                         with_reducible rfl
                        rotate_left
                        ·simp only [Act.put,List.setIfInBounds_toArray,List.set_cons_zero,List.set_cons_succ,i64_w,i32_w]
                         rfl
                        refine pure_ (i:=1) (N:=some 79) (v:=?_) (a':=?_) #[true,true,false,false,false,false,false,false,false] rfl rfl (Mh HT_.out (by kernel_rfl)) (fun _ _ _ h=>h) (Or.inl ⟨by rfl,?_⟩) ?_ ?_
                        rotate_left
                        ·intro w'
                         go_simp
                         with_reducible rfl
                        rotate_left
                        ·simp only [Act.put,List.setIfInBounds_toArray,List.set_cons_zero,List.set_cons_succ,i64_w,i32_w]
                         rfl
                        refine pure_ (i:=2) (N:=some 80) (v:=?_) (a':=?_) #[true,true,true,false,false,false,false,false,false] rfl rfl (Mh HT_.out (by kernel_rfl)) (fun _ _ _ h=>h) (Or.inl ⟨by rfl,?_⟩) ?_ ?_
                        rotate_left
                        ·intro w'
                         go_simp
                         with_reducible rfl
                        rotate_left
                        ·simp only [Act.put,List.setIfInBounds_toArray,List.set_cons_zero,List.set_cons_succ,i64_w,i32_w]
                         rfl
                        refine pure_ (i:=3) (N:=some 81) (v:=?_) (a':=?_) #[true,true,true,true,false,false,false,false,false] rfl rfl (Mh HT_.out (by kernel_rfl)) (fun _ _ _ h=>h) (Or.inl ⟨by rfl,?_⟩) ?_ ?_
                        rotate_left
                        ·intro w'
                         go_simp
                         with_reducible rfl
                        rotate_left
                        ·simp only [Act.put,List.setIfInBounds_toArray,List.set_cons_zero,List.set_cons_succ,i64_w,i32_w]
                         rfl
                        refine pure_ (i:=4) (N:=some 82) (v:=?_) (a':=?_) #[true,true,true,true,true,false,false,false,false] rfl rfl (Mh HT_.out (by kernel_rfl)) (fun _ _ _ h=>h) (Or.inl ⟨by rfl,?_⟩) ?_ ?_
                        rotate_left
                        ·intro w'
                         go_simp
                         with_reducible rfl
                        rotate_left
                        ·simp only [Act.put,List.setIfInBounds_toArray,List.set_cons_zero,List.set_cons_succ,i64_w,i32_w]
                         rfl
                        refine pure_ (i:=6) (N:=some 84) (v:=?_) (a':=?_) #[true,true,true,true,true,false,true,false,false] rfl rfl (Mh HT_.out (by kernel_rfl)) (fun _ _ _ h=>h) (Or.inl ⟨by rfl,?_⟩) ?_ ?_
                        rotate_left
                        ·intro w'
                         go_simp
                         with_reducible rfl
                        rotate_left
                        ·simp only [Act.put,List.setIfInBounds_toArray,List.set_cons_zero,List.set_cons_succ,i64_w,i32_w]
                         rfl
                        refine take_ (i:=5) (N:=some 83) (v:=?_) (a':=?_) #[true,true,true,true,true,true,true,false,false] rfl rfl (take_ofW HT_.out HW_.out (by kernel_rfl)) (fun _ _ _ h=>h) (Or.inl ⟨by rfl,?_⟩) qo ?_ ?_
                        rotate_left
                        ·rintro w' ⟨s0,s1,s2,s3,s4,s5⟩
                         go_simp
                         with_reducible rfl
                        rotate_left
                        ·simp only [Act.put,List.setIfInBounds_toArray,List.set_cons_zero,List.set_cons_succ,i64_w,i32_w]
                         rfl
                        refine take_ (i:=7) (N:=some 85) (v:=?_) (a':=?_) #[true,true,true,true,true,true,true,true,false] rfl rfl (take_ofW HT_.out HW_.out (by kernel_rfl)) (fun _ _ _ h=>h) (Or.inl ⟨by rfl,?_⟩) qo ?_ ?_
                        rotate_left
                        ·rintro w' ⟨s0,s1,s2,s3,s4,s5⟩
                         go_simp
                         with_reducible rfl
                        rotate_left
                        ·simp only [Act.put,List.setIfInBounds_toArray,List.set_cons_zero,List.set_cons_succ,i64_w,i32_w]
                         rfl
                        refine pure_ (i:=8) (N:=some 86) (v:=?_) (a':=?_) #[true,true,true,true,true,true,true,true,true] rfl rfl (Mh HT_.out (by kernel_rfl)) (fun _ _ _ h=>h) (Or.inl ⟨by rfl,?_⟩) ?_ ?_
                        rotate_left
                        ·intro w'
                         go_simp
                         with_reducible rfl
                        rotate_left
                        ·simp only [Act.put,List.setIfInBounds_toArray,List.set_cons_zero,List.set_cons_succ,i64_w,i32_w]
                         rfl
                        refine done_ (done_of HT_.out (by kernel_rfl)) ?_
                        have p344:0≤((qk):Int):=of_decide_eq_true (by first|(with_reducible assumption)|assumption)
                        have q344:(qk) < (qg.length:Int):=of_decide_eq_true (by first|(with_reducible assumption)|assumption)
                        obtain⟨ad344,e344,hx344_0,hx344_1,hx344_2⟩:=at_T71 (Kd.R_reads' qh.out).2.2 (qk) p344 q344
                        obtain rfl:qz=ad344:=(by injection e344)
                        replace p344:=eq_true p344
                        replace q344:=eq_true q344
                        have p51:0≤(qi:Int):=of_decide_eq_true (by first|(with_reducible assumption)|assumption)
                        have q51:(qi:Int) < ((qg.length:Int):Int):=of_decide_eq_true (by first|(with_reducible assumption)|assumption)
                        obtain⟨yi,co51,eo51,gb51,gl51,cl51,HG51⟩:=Kd.R_form qh.out (by omega)
                        (first|cases eo51|(injection eo51 with ea_ en_ ec_;(first|subst ea_|(injection ea_ with ea_;subst ea_));subst ec_;clear en_))
                        have GB51:=Ma gb51
                        have GG51:=Ma HG51
                        clear gb51 gl51 HG51
                        (first|simp only [add_plain] at ye|skip)
                        (first|simp only [add_plain] at yf|skip)
                        (first|simp only [add_plain] at yg|skip)
                        (first|simp only [add_plain] at hx344_0|skip)
                        (first|simp only [add_plain] at hx344_1|skip)
                        (first|simp only [add_plain] at hx344_2|skip)
                        obtain⟨ce51,hcl51,hM51,hcc51,hfr51⟩:=Kd.R_elem qh.out z71 (qi:Int) p51 q51
                        obtain rfl:=k71_openM hM51
                        have hx51_0:w52.cell? ⟨yi,(qi:Int).toNat*3,none⟩=some (.string ((rd_T71 qg qi).f0)):=hcc51 0 _ rfl
                        have hx51_1:w52.cell? ⟨yi,(qi:Int).toNat*3+1,none⟩=some (.int .i64 ((rd_T71 qg qi).f1)):=hcc51 1 _ rfl
                        have hx51_2:w52.cell? ⟨yi,(qi:Int).toNat*3+2,none⟩=some (.int .i64 ((rd_T71 qg qi).f2)):=hcc51 2 _ rfl
                        have hf51_0:w52.frozen? ⟨yi,(qi:Int).toNat*3,none⟩=false:=hfr51 0
                        have hf51_1:w52.frozen? ⟨yi,(qi:Int).toNat*3+1,none⟩=false:=hfr51 1
                        have hf51_2:w52.frozen? ⟨yi,(qi:Int).toNat*3+2,none⟩=false:=hfr51 2
                        clear hcl51 hcc51 hfr51 hM51
                        replace p51:=eq_true p51
                        replace q51:=eq_true q51
                        have HX54:=Ma (show Kd.R k71 71 w52 w.heap.size (fun k_=>k_≠qd) (.slice (some ⟨yi,0,none⟩) qg.length co53) qg from(by(with_reducible repeat(first|apply Mi|apply Mj|apply Mb));exact qh.out))
                        obtain⟨ce54,hcl54,hM54,hcc54,hfr54⟩:=Kd.R_elem HX54.out z71 (qi:Int) (of_decide_eq_true (by first|(with_reducible assumption)|assumption)) (by have h_:(qi:Int) < ((qg.length:Int):Int):=of_decide_eq_true (by first|(with_reducible assumption)|assumption);first|exact h_|(have e_:=(Kd.R_reads' qh.out).1;omega)|simpa using h_)
                        obtain rfl:=k71_openM hM54
                        have HP54:=Kd.R_seg HX54.out (qi:Int) (of_decide_eq_true (by first|(with_reducible assumption)|assumption)) (by have h_:(qi:Int) < ((qg.length:Int):Int):=of_decide_eq_true (by first|(with_reducible assumption)|assumption);first|exact h_|(have e_:=(Kd.R_reads' qh.out).1;omega)|simpa using h_) (seg:=[.string ((rd_T71 qg (qk)).f0),.int .i64 ((rd_T71 qg (qk)).f1),.int .i64 ((rd_T71 qg (qk)).f2)]) (j:=0) hcl54 hcc54 (show 3≤3 from by decide) (x':=(⟨(rd_T71 qg (qk)).f0,(rd_T71 qg (qk)).f1,(rd_T71 qg (qk)).f2⟩:S71)) (k71_mkM _ _ _ (⟨(rd_T71 qg (qk)).f0,(rd_T71 qg (qk)).f1,(rd_T71 qg (qk)).f2⟩:S71) ) (fun _ hk=>hk)
                        have hx54_0:=hcc54 0 _ rfl
                        (try simp only [show(k71).sz=3 from rfl,Nat.mul_one,Nat.add_zero] at hx54_0)
                        have hf54_0:=hfr54 0
                        (try simp only [show(k71).sz=3 from rfl,Nat.mul_one,Nat.add_zero] at hf54_0)
                        have hx54_1:=hcc54 1 _ rfl
                        (try simp only [show(k71).sz=3 from rfl,Nat.mul_one,Nat.add_zero] at hx54_1)
                        have hf54_1:=hfr54 1
                        (try simp only [show(k71).sz=3 from rfl,Nat.mul_one,Nat.add_zero] at hf54_1)
                        have hx54_2:=hcc54 2 _ rfl
                        (try simp only [show(k71).sz=3 from rfl,Nat.mul_one,Nat.add_zero] at hx54_2)
                        have hf54_2:=hfr54 2
                        (try simp only [show(k71).sz=3 from rfl,Nat.mul_one,Nat.add_zero] at hf54_2)
                        clear hcl54 hcc54 hfr54 hM54
                        try go_wp2_with (first|((with_reducible refine gate_store (t:=71) (p:=95) rfl ?_);refine store_event (t:=71) (p:=95) (v:=?vo_w55) (w1:=(((w52.setCell ⟨yi,(qi:Int).toNat*3,none⟩ (.string ((rd_T71 qg (qk)).f0))).setCell ⟨yi,(qi:Int).toNat*3+1,none⟩ (.int .i64 ((rd_T71 qg (qk)).f1))).setCell ⟨yi,(qi:Int).toNat*3+2,none⟩ (.int .i64 ((rd_T71 qg (qk)).f2)))) ?hg ?ho ?hn ?hr ?_;(case ho=>rfl);(case hg=>rfl);(case hn=>rfl);(case hr=>first|(go_simp;done)|(go_simp;rfl));intro w55 hw;have hg:w52.grownBy w55 (some yi):=(by rw [hw];exact HP54.2);have hp_:Kd.R k71 71 w55 w.heap.size (fun k_=>k_≠qd) (.slice (some ⟨yi,0,none⟩) qg.length co53) y345:=(by rw [hw,Ny345.out];exact HP54.1);clear HP54;have qw:=Ma (hp_);have qx:=Ma (blk_grown (g:=qd) (o:=.cells #[.string qa,.int .i64 qe,.int .i64 qf] 71 (0,0)) (by(with_reducible repeat(first|refine blk_drewN ?_ _|refine Mg ?_|refine blk_alloc ?_ _));exact qc.out) hg (Kd.R_away qh.out (fun _ hk=>hk)));have yc:=Ma ((by rw [hw];exact below_set (below_set (below_set (HB.out) GB51.out) GB51.out) GB51.out:Below w.heap.size w w55));clear qh;clear qc;clear HB;have qh:=qw;have qc:=qx;have HB:=yc;clear qw qx yc;clear hg hw hp_))
                        go_roundg kj30
                        case measure=>have:=HJ2.out;have:=HK2.out;have:=HJ8.out;have:=HK4.out;have:=HJ30.out;omega
                        case rel=>exact⟨(y345),(qk),(qa),(qe),(qf),(by first|rfl|(simp;done)|(simp only [← hji41] <;> (first|rfl|simp))|(simp [*];done)),H',⟨by have:=HJ2.out;have:=HK2.out;have:=HJ8.out;have:=HK4.out;have:=HJ30.out;omega⟩,⟨by(with_reducible repeat(first|apply Mi|apply Mj|apply Mb));exact qh.out⟩,⟨by(with_reducible repeat(first|refine blk_drewN ?_ _|refine Mg ?_|refine blk_alloc ?_ _));exact qc.out⟩,⟨by repeat(first|(with_reducible first|exact HB.out|apply Mf|apply Md|apply Me|refine below_set ?_ qq.out)|exact HB.out)⟩⟩
                       ·rw [if_neg c50] at H
                        exact absurd H (by simp)
                      ·rw [if_neg c49] at H
                       exact absurd H (by simp)
                    ·rw [if_neg c43] at H
                     exact absurd H (by simp)
                   ·rw [if_neg c42] at H
                    exact absurd H (by simp)
                  ·replace c40:=Bool.eq_false_iff.mpr c40
                   subst c40
                   have H1:(if 0≤qi then (if qi < (qg.length:Int) then (spec_Pack.l0 kj30 l0 l1 (qg.set (qi:Int).toNat (⟨qa,qe,qf⟩:S71)) (wrap64 (qb+1))) else (none)) else (none))=some (r1,r2):=by rw [if_neg (show ¬ (false=true) by decide)] at H;exact H
                   clear H
                   have H:=H1
                   clear H1
                   by_cases c56:0≤qi
                   ·rw [if_pos c56] at H
                    have c56b0:decide (0≤qi)=true:=decide_eq_true c56
                    clear c56
                    by_cases c57:qi < (qg.length:Int)
                    ·rw [if_pos c57] at H
                     have c57b0:decide (qi < (qg.length:Int))=true:=decide_eq_true c57
                     clear c57
                     obtain⟨y346,hy346⟩:∃ y_:List (S71),y_=(qg.set (qi:Int).toNat (⟨qa,qe,qf⟩:S71)):=⟨_,rfl⟩
                     replace H:(spec_Pack.l0 kj30 l0 l1 y346 (wrap64 (qb+1)))=some (r1,r2):=by first|(rw [hy346];with_reducible exact H)|(have yk:=(Option.bind_some _ _).symm.trans H;rw [hy346];with_reducible exact yk)|(have yk:=(Option.bind_some _ _).symm.trans H;with_reducible exact yk)|with_reducible exact H|(rw [hy346];exact H)|exact H
                     have Ny346:=Ma hy346
                     clear hy346
                     have H':=Ma H
                     clear H
                     have hcz59_0:wc.cell? ⟨qd,0,none⟩=some (.string qa):=(blk_cell qc.out 0).trans rfl
                     have hcz59_1:wc.cell? ⟨qd,1,none⟩=some (.int .i64 qe):=(blk_cell qc.out 1).trans rfl
                     have hcz59_2:wc.cell? ⟨qd,2,none⟩=some (.int .i64 qf):=(blk_cell qc.out 2).trans rfl
                     have hfz59_0:=blk_frozen qc.out 0
                     have hfz59_1:=blk_frozen qc.out 1
                     have hfz59_2:=blk_frozen qc.out 2
                     have p58:0≤(qi:Int):=of_decide_eq_true (by first|(with_reducible assumption)|assumption)
                     have q58:(qi:Int) < ((qg.length:Int):Int):=of_decide_eq_true (by first|(with_reducible assumption)|assumption)
                     obtain⟨yj,co58,eo58,gb58,gl58,cl58,HG58⟩:=Kd.R_form qh.out (by omega)
                     (first|cases eo58|(injection eo58 with ea_ en_ ec_;(first|subst ea_|(injection ea_ with ea_;subst ea_));subst ec_;clear en_))
                     have GB58:=Ma gb58
                     have GG58:=Ma HG58
                     clear gb58 gl58 HG58
                     obtain⟨ce58,hcl58,hM58,hcc58,hfr58⟩:=Kd.R_elem qh.out z71 (qi:Int) p58 q58
                     obtain rfl:=k71_openM hM58
                     have hx58_0:wc.cell? ⟨yj,(qi:Int).toNat*3,none⟩=some (.string ((rd_T71 qg qi).f0)):=hcc58 0 _ rfl
                     have hx58_1:wc.cell? ⟨yj,(qi:Int).toNat*3+1,none⟩=some (.int .i64 ((rd_T71 qg qi).f1)):=hcc58 1 _ rfl
                     have hx58_2:wc.cell? ⟨yj,(qi:Int).toNat*3+2,none⟩=some (.int .i64 ((rd_T71 qg qi).f2)):=hcc58 2 _ rfl
                     have hf58_0:wc.frozen? ⟨yj,(qi:Int).toNat*3,none⟩=false:=hfr58 0
                     have hf58_1:wc.frozen? ⟨yj,(qi:Int).toNat*3+1,none⟩=false:=hfr58 1
                     have hf58_2:wc.frozen? ⟨yj,(qi:Int).toNat*3+2,none⟩=false:=hfr58 2
                     clear hcl58 hcc58 hfr58 hM58
                     replace p58:=eq_true p58
                     replace q58:=eq_true q58
                     have HX60:=Ma (show Kd.R k71 71 wc w.heap.size (fun k_=>k_≠qd) (.slice (some ⟨yj,0,none⟩) qg.length co58) qg from(by(with_reducible repeat(first|apply Mi|apply Mj|apply Mb));exact qh.out))
                     obtain⟨ce60,hcl60,hM60,hcc60,hfr60⟩:=Kd.R_elem HX60.out z71 (qi:Int) (of_decide_eq_true (by first|(with_reducible assumption)|assumption)) (by have h_:(qi:Int) < ((qg.length:Int):Int):=of_decide_eq_true (by first|(with_reducible assumption)|assumption);first|exact h_|(have e_:=(Kd.R_reads' qh.out).1;omega)|simpa using h_)
                     obtain rfl:=k71_openM hM60
                     have HP60:=Kd.R_seg HX60.out (qi:Int) (of_decide_eq_true (by first|(with_reducible assumption)|assumption)) (by have h_:(qi:Int) < ((qg.length:Int):Int):=of_decide_eq_true (by first|(with_reducible assumption)|assumption);first|exact h_|(have e_:=(Kd.R_reads' qh.out).1;omega)|simpa using h_) (seg:=[.string qa,.int .i64 qe,.int .i64 qf]) (j:=0) hcl60 hcc60 (show 3≤3 from by decide) (x':=(⟨qa,qe,qf⟩:S71)) (k71_mkM _ _ _ (⟨qa,qe,qf⟩:S71) ) (fun _ hk=>hk)
                     have hx60_0:=hcc60 0 _ rfl
                     (try simp only [show(k71).sz=3 from rfl,Nat.mul_one,Nat.add_zero] at hx60_0)
                     have hf60_0:=hfr60 0
                     (try simp only [show(k71).sz=3 from rfl,Nat.mul_one,Nat.add_zero] at hf60_0)
                     have hx60_1:=hcc60 1 _ rfl
                     (try simp only [show(k71).sz=3 from rfl,Nat.mul_one,Nat.add_zero] at hx60_1)
                     have hf60_1:=hfr60 1
                     (try simp only [show(k71).sz=3 from rfl,Nat.mul_one,Nat.add_zero] at hf60_1)
                     have hx60_2:=hcc60 2 _ rfl
                     (try simp only [show(k71).sz=3 from rfl,Nat.mul_one,Nat.add_zero] at hx60_2)
                     have hf60_2:=hfr60 2
                     (try simp only [show(k71).sz=3 from rfl,Nat.mul_one,Nat.add_zero] at hf60_2)
                     clear hcl60 hcc60 hfr60 hM60
                     go_wp2_with (first|((with_reducible refine gate_store (t:=71) (p:=101) rfl ?_);refine store_event (t:=71) (p:=101) (v:=?vo_w61) (w1:=(((wc.setCell ⟨yj,(qi:Int).toNat*3,none⟩ (.string qa)).setCell ⟨yj,(qi:Int).toNat*3+1,none⟩ (.int .i64 qe)).setCell ⟨yj,(qi:Int).toNat*3+2,none⟩ (.int .i64 qf))) ?hg ?ho ?hn ?hr ?_;(case ho=>rfl);(case hg=>rfl);(case hn=>rfl);(case hr=>first|(go_simp;done)|(go_simp;rfl));intro w61 hw;have hg:wc.grownBy w61 (some yj):=(by rw [hw];exact HP60.2);have hp_:Kd.R k71 71 w61 w.heap.size (fun k_=>k_≠qd) (.slice (some ⟨yj,0,none⟩) qg.length co58) y346:=(by rw [hw,Ny346.out];exact HP60.1);clear HP60;have qw:=Ma (hp_);have qx:=Ma (blk_grown (g:=qd) (o:=.cells #[.string qa,.int .i64 qe,.int .i64 qf] 71 (0,0)) (by(with_reducible repeat(first|refine blk_drewN ?_ _|refine Mg ?_|refine blk_alloc ?_ _));exact qc.out) hg (Kd.R_away qh.out (fun _ hk=>hk)));have yc:=Ma ((by rw [hw];exact below_set (below_set (below_set (HB.out) GB58.out) GB58.out) GB58.out:Below w.heap.size w w61));clear qh;clear qc;clear HB;have qh:=qw;have qc:=qx;have HB:=yc;clear qw qx yc;clear hg hw hp_))
                     go_roundg kj30
                     case measure=>have:=HJ2.out;have:=HK2.out;have:=HJ8.out;have:=HK4.out;have:=HJ30.out;omega
                     case rel=>exact⟨(y346),(wrap64 (qb+1)),(by first|rfl|(simp;done)|(simp [*];done)),H',⟨by have:=HJ2.out;have:=HK2.out;have:=HJ8.out;have:=HK4.out;have:=HJ30.out;omega⟩,⟨by(with_reducible repeat(first|apply Mi|apply Mj|apply Mb));exact Kd.R_mono qh.out (fun _ hk=>trivial)⟩,⟨by repeat(first|(with_reducible first|exact HB.out|apply Mf|apply Md|apply Me|refine below_set ?_ qq.out)|exact HB.out)⟩⟩
                    ·rw [if_neg c57] at H
                     exact absurd H (by simp)
                   ·rw [if_neg c56] at H
                    exact absurd H (by simp)
             ·rw [if_neg c21] at H
              exact absurd H (by simp)
            ·rw [if_neg c19] at H
             exact absurd H (by simp)
           ·rw [if_neg c18] at H
            exact absurd H (by simp)
          ·rw [if_neg c17] at H
           exact absurd H (by simp)
      ·rw [if_neg c8] at H
       have c8b0:decide (qb < (l0.length:Int))=false:=decide_eq_false c8
       clear c8
       simp only [Option.some.injEq,Prod.mk.injEq] at H
       obtain⟨rfl,rfl⟩:=H
       go_wp2
       go_ret2
       exact⟨_,by first|rfl|(simp [errW_none,errW_some] <;> rfl)|(simp [*,errW_none,errW_some] <;> rfl),by(with_reducible repeat(first|apply Mi|apply Mj|apply Mb));exact qh.out,by repeat(first|(with_reducible first|exact HB.out|apply Mf|apply Md|apply Me)|exact HB.out)⟩

end Go.Proofs.Ytelcpfanjjfgdaa.HFnPacked
