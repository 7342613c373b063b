-- Laid by myprint.py, a program of this repo, out of the kit's printer and this repo's own texts (wip/hand).
import Derived.Test.YtdhhdphpfleikaaHFnKeyedx0
import Derived.Test.YtdhhdphpfleikaaHFnKeyedx2
namespace Go.Proofs.Ytdhhdphpfleikaa.HFnKeyed
open Go.RowKit Go.Proofs.YtdhhdphpfleikaaW.PrintWords Go.Proofs.YtdhhdphpfleikaaW.PrintLast Go.Proofs.YtdhhdphpfleikaaW.PrintMore
attribute [local go_sem] max2_int min2_int max_two min_two max_three min_three max_four min_four   -- for this text's walks alone
set_option linter.unusedVariables false
set_option linter.unusedSimpArgs false

/-! ### spec_DrawKeyMask: function 13 -/
def spec_DrawKeyMask.j0 : Nat → List Int → Int → Int → Int → Int → Int → Int → Int → Int → Option (Int × Int × Int × Int × Int × Int × Int × Int)
  | 0, _, _, _, _, _, _, _, _, _ => none
  | k + 1, x190000, x190001, x190002, x196000, x196001, x196002, x202000, x202001, x202002 => (spec_l1Below.f x190000 x190001 x190002 1000).bind fun bt209 => ((spec_l1Below.f x190000 bt209.2.1 bt209.2.2 2000).bind fun bt212 => ((spec_l1Once.f x190000 bt212.2.1 bt212.2.2 16).bind fun bt215 => (if bt215.1 = true then ((some (([(-1), wrap64 ((wrap64 (bt209.1 + 1)) + bt212.1), 0] : List Int) : List Int)).bind fun y218 => ((spec_l1Below.f x190000 bt215.2.1 bt215.2.2 3).bind fun bt221 => (if 0 ≤ bt221.1 then (if bt221.1 < (y218.length : Int) then ((some (([wrap64 ((wrap64 (bt209.1 + 1)) + bt212.1), 65535, 65536] : List Int) : List Int)).bind fun y225 => ((spec_l1Below.f x190000 bt221.2.1 bt221.2.2 3).bind fun bt228 => (if 0 ≤ bt228.1 then (if bt228.1 < (y225.length : Int) then (some (x196000, x196001, x196002, x202000, x202001, x202002, rd y218 bt221.1, rd y225 bt228.1)) else (none)) else (none)))) else (none)) else (none)))) else (some (x196000, x196001, x196002, x202000, x202001, x202002, bt209.1, wrap64 ((wrap64 (bt209.1 + 1)) + bt212.1))))))
def spec_DrawKeyMask.f (k : Nat) (l0 : List Int) : Option (Int × Int × Int × Int × Int × Int × Int × Int) := (spec_l1New.f k l0).bind fun bt186 => ((spec_l9DrawRgb.f k bt186.1 bt186.2.1 bt186.2.2).bind fun bt190 => ((spec_l9DrawRgb.f k bt186.1 bt190.2.2.2.1 bt190.2.2.2.2).bind fun bt196 => ((spec_l1Once.f bt186.1 bt196.2.2.2.1 bt196.2.2.2.2 2).bind fun bt202 => (if bt202.1 = true then ((spec_l1Below.f bt186.1 bt202.2.1 bt202.2.2 2000).bind fun bt205 => ((spec_l1Min.f 65535 (wrap64 (bt190.2.1 + bt205.1))).bind fun t208 => (spec_DrawKeyMask.j0 k bt186.1 bt205.2.1 bt205.2.2 bt190.1 bt190.2.1 bt190.2.2.1 bt190.1 t208 bt190.2.2.1))) else (spec_DrawKeyMask.j0 k bt186.1 bt202.2.1 bt202.2.2 bt190.1 bt190.2.1 bt190.2.2.1 bt196.1 bt196.2.1 bt196.2.2.1)))))
theorem spec_DrawKeyMask.mono_l : ∀ k, (∀ y0 y1 y2 y3 y4 y5 y6 y7 y8, LeO (spec_DrawKeyMask.j0 k y0 y1 y2 y3 y4 y5 y6 y7 y8) (spec_DrawKeyMask.j0 (k + 1) y0 y1 y2 y3 y4 y5 y6 y7 y8))
  | 0 => fun _ _ _ _ _ _ _ _ _ r h => by simp [spec_DrawKeyMask.j0] at h
  | k + 1 => by
    have ih0 := spec_DrawKeyMask.mono_l k
    · intro y0 y1 y2 y3 y4 y5 y6 y7 y8
      unfold spec_DrawKeyMask.j0
      repeat' first
      | (with_reducible exact ih0 _ _ _ _ _ _ _ _ _)
      | (with_reducible exact spec_l1New.mono _ _)
      | (with_reducible exact spec_l9DrawRgb.mono _ _ _ _)
      | (with_reducible exact LeO.refl _)
      | (with_reducible exact LeO.none _)
      | (with_reducible refine LeO.ite ?_ ?_)
      | (with_reducible refine LeO.bind ?_ (fun _ => ?_))
      | exact ih0 _ _ _ _ _ _ _ _ _
      | exact spec_l1New.mono _ _
      | exact spec_l9DrawRgb.mono _ _ _ _
      | exact LeO.none _
      | refine LeO.ite ?_ ?_
      | refine LeO.bind ?_ (fun _ => ?_)
theorem spec_DrawKeyMask.mono : ∀ a0 k, LeO (spec_DrawKeyMask.f k a0) (spec_DrawKeyMask.f (k + 1) a0) := by
  intro a0 k
  have ih0 := spec_DrawKeyMask.mono_l k
  unfold spec_DrawKeyMask.f
  repeat' first
      | (with_reducible exact ih0 _ _ _ _ _ _ _ _ _)
      | (with_reducible exact spec_l1New.mono _ _)
      | (with_reducible exact spec_l9DrawRgb.mono _ _ _ _)
      | (with_reducible exact LeO.refl _)
      | (with_reducible exact LeO.none _)
      | (with_reducible refine LeO.ite ?_ ?_)
      | (with_reducible refine LeO.bind ?_ (fun _ => ?_))
      | exact ih0 _ _ _ _ _ _ _ _ _
      | exact spec_l1New.mono _ _
      | exact spec_l9DrawRgb.mono _ _ _ _
      | exact LeO.none _
      | refine LeO.ite ?_ ?_
      | refine LeO.bind ?_ (fun _ => ?_)
def spec_DrawKeyMask.T6 : Bool × List (List Nat × List Nat) := (true, [([], []), ([0], [0]), ([], []), ([2], [2]), ([1, 3], [1, 3]), ([4, 3], [4]), ([0, 1, 2, 3, 4, 5], []), ([6, 5, 5, 0, 1, 2, 3, 4, 5], [5, 6])])
def spec_DrawKeyMask.B6 : List Nat := [0, 1, 0, 4, 15, 31, 63, 127]
theorem spec_DrawKeyMask.tab6 : rtab .any (opsOf Try.f13 6) = spec_DrawKeyMask.T6 := by kernel_rfl
theorem spec_DrawKeyMask.bits6 : waitsOk spec_DrawKeyMask.T6.2 spec_DrawKeyMask.B6 = true := by kernel_rfl
def spec_DrawKeyMask.T12 : Bool × List (List Nat × List Nat) := (true, [([], []), ([], []), ([], []), ([], []), ([0, 0], [0]), ([1, 4, 0, 1, 4], [1]), ([2, 5, 0, 1, 2, 4, 5], [2]), ([3, 6, 0, 1, 2, 3, 4, 5, 6], [3])])
def spec_DrawKeyMask.B12 : List Nat := [0, 0, 0, 0, 1, 19, 55, 127]
theorem spec_DrawKeyMask.tab12 : rtab .any (opsOf Try.f13 12) = spec_DrawKeyMask.T12 := by kernel_rfl
theorem spec_DrawKeyMask.bits12 : waitsOk spec_DrawKeyMask.T12.2 spec_DrawKeyMask.B12 = true := by kernel_rfl
set_option maxHeartbeats 8000000 in
set_option maxRecDepth 100000 in
theorem spec_DrawKeyMask.calls (k : Nat) (A0 : Option Addr) (c0 : Nat) (l0 : List Int) (r1 : Int) (r2 : Int) (r3 : Int) (r4 : Int) (r5 : Int) (r6 : Int) (r7 : Int) (r8 : Int) (w : World) (hr0 : Kd.C (Kd.int .u8) w A0 l0.length l0) (hc0 : l0.length ≤ c0) (h : spec_DrawKeyMask.f k l0 = some (r1, r2, r3, r4, r5, r6, r7, r8)) :
    Calls Try.prog 13 #[.slice A0 l0.length c0] w fun e w' => e = .returned (.tuple #[.agg #[.int .i64 r1, .int .i64 r2, .int .i64 r3], .agg #[.int .i64 r4, .int .i64 r5, .int .i64 r6], .int .i64 r7, .int .i64 r8]) ∧ Below w.heap.size w w' := by
  have hu25 := Try.underlying25
  have HR0 := Aside0.mk hr0
  have HC0 := Aside0.mk hc0
  clear hr0 hc0
  have HB := Aside0.mk (Below.refl w.heap.size w)
  have H : ((spec_l1New.f k l0).bind fun bt186 => ((spec_l9DrawRgb.f k bt186.1 bt186.2.1 bt186.2.2).bind fun bt190 => ((spec_l9DrawRgb.f k bt186.1 bt190.2.2.2.1 bt190.2.2.2.2).bind fun bt196 => ((spec_l1Once.f bt186.1 bt196.2.2.2.1 bt196.2.2.2.2 2).bind fun bt202 => (if bt202.1 = true then ((spec_l1Below.f bt186.1 bt202.2.1 bt202.2.2 2000).bind fun bt205 => ((spec_l1Min.f 65535 (wrap64 (bt190.2.1 + bt205.1))).bind fun t208 => (spec_DrawKeyMask.j0 k bt186.1 bt205.2.1 bt205.2.2 bt190.1 bt190.2.1 bt190.2.2.1 bt190.1 t208 bt190.2.2.1))) else (spec_DrawKeyMask.j0 k bt186.1 bt202.2.1 bt202.2.2 bt190.1 bt190.2.1 bt190.2.2.1 bt196.1 bt196.2.1 bt196.2.2.1)))))) = some (r1, r2, r3, r4, r5, r6, r7, r8) := h
  clear h
  replace H := Option.bind_eq_some_iff.mp H
  obtain ⟨⟨t186, t187, t188⟩, A20, H⟩ := H
  replace H : ((spec_l9DrawRgb.f k t186 t187 t188).bind fun bt190 => ((spec_l9DrawRgb.f k t186 bt190.2.2.2.1 bt190.2.2.2.2).bind fun bt196 => ((spec_l1Once.f t186 bt196.2.2.2.1 bt196.2.2.2.2 2).bind fun bt202 => (if bt202.1 = true then ((spec_l1Below.f t186 bt202.2.1 bt202.2.2 2000).bind fun bt205 => ((spec_l1Min.f 65535 (wrap64 (bt190.2.1 + bt205.1))).bind fun t208 => (spec_DrawKeyMask.j0 k t186 bt205.2.1 bt205.2.2 bt190.1 bt190.2.1 bt190.2.2.1 bt190.1 t208 bt190.2.2.1))) else (spec_DrawKeyMask.j0 k t186 bt202.2.1 bt202.2.2 bt190.1 bt190.2.1 bt190.2.2.1 bt196.1 bt196.2.1 bt196.2.2.1))))) = some (r1, r2, r3, r4, r5, r6, r7, r8) := H
  have A2 := Aside0.mk A20
  clear A20
  replace H := Option.bind_eq_some_iff.mp H
  obtain ⟨⟨t190, t191, t192, t193, t194⟩, A30, H⟩ := H
  replace H : ((spec_l9DrawRgb.f k t186 t193 t194).bind fun bt196 => ((spec_l1Once.f t186 bt196.2.2.2.1 bt196.2.2.2.2 2).bind fun bt202 => (if bt202.1 = true then ((spec_l1Below.f t186 bt202.2.1 bt202.2.2 2000).bind fun bt205 => ((spec_l1Min.f 65535 (wrap64 (t191 + bt205.1))).bind fun t208 => (spec_DrawKeyMask.j0 k t186 bt205.2.1 bt205.2.2 t190 t191 t192 t190 t208 t192))) else (spec_DrawKeyMask.j0 k t186 bt202.2.1 bt202.2.2 t190 t191 t192 bt196.1 bt196.2.1 bt196.2.2.1)))) = some (r1, r2, r3, r4, r5, r6, r7, r8) := H
  have A3 := Aside0.mk A30
  clear A30
  replace H := Option.bind_eq_some_iff.mp H
  obtain ⟨⟨t196, t197, t198, t199, t200⟩, A40, H⟩ := H
  replace H : ((spec_l1Once.f t186 t199 t200 2).bind fun bt202 => (if bt202.1 = true then ((spec_l1Below.f t186 bt202.2.1 bt202.2.2 2000).bind fun bt205 => ((spec_l1Min.f 65535 (wrap64 (t191 + bt205.1))).bind fun t208 => (spec_DrawKeyMask.j0 k t186 bt205.2.1 bt205.2.2 t190 t191 t192 t190 t208 t192))) else (spec_DrawKeyMask.j0 k t186 bt202.2.1 bt202.2.2 t190 t191 t192 t196 t197 t198))) = some (r1, r2, r3, r4, r5, r6, r7, r8) := H
  have A4 := Aside0.mk A40
  clear A40
  replace H := Option.bind_eq_some_iff.mp H
  obtain ⟨⟨t202, t203, t204⟩, A50, H⟩ := H
  replace H : (if t202 = true then ((spec_l1Below.f t186 t203 t204 2000).bind fun bt205 => ((spec_l1Min.f 65535 (wrap64 (t191 + bt205.1))).bind fun t208 => (spec_DrawKeyMask.j0 k t186 bt205.2.1 bt205.2.2 t190 t191 t192 t190 t208 t192))) else (spec_DrawKeyMask.j0 k t186 t203 t204 t190 t191 t192 t196 t197 t198)) = some (r1, r2, r3, r4, r5, r6, r7, r8) := H
  have A5 := Aside0.mk A50
  clear A50
  have HC6 := Aside0.mk H
  clear H
  go_enter Try.func13, Try.ntmps13
  go_upto_if 18 with (first | ((with_reducible refine gate_dst (N := 2) rfl ?_); refine box_event ?hg (N := 2) ?hd (cs := #[.int .i64 0, .int .i64 0, .int .i64 0]) (t := 25) ?hr ?_; (case hd => rfl); (case hg => rfl); (case hr => first | (go_simp; done) | (go_simp; rfl)); intro gb184 hg w7 hbox hb; have n0_ := Aside0.mk (below_step (by repeat (first | (with_reducible first | exact HB.out | apply below_alloc | apply pw_below_drewN | apply below_drew1) | exact HB.out)) hb); have n1_ := Aside0.mk (hbox); have n2_ := Aside0.mk ((by rw [hg]; exact (below_size (by repeat (first | (with_reducible first | exact HB.out | apply below_alloc | apply pw_below_drewN | apply below_drew1) | exact HB.out))) : w.heap.size ≤ gb184)); have n3_ := Aside0.mk ((by rw [hg]; exact (below_size (by repeat (first | (with_reducible first | exact HB.out | apply below_alloc | apply pw_below_drewN | apply below_drew1) | exact HB.out))) : w.heap.size ≤ gb184)); clear HB; have HB := n0_; have BK184 := n1_; have GW184 := n2_; have GE184 := n3_; clear n0_ n1_ n2_ n3_; clear hb hbox hg) | ((with_reducible refine gate_dst (N := 3) rfl ?_); refine box_event ?hg (N := 3) ?hd (cs := #[.int .i64 0, .int .i64 0, .int .i64 0]) (t := 25) ?hr ?_; (case hd => rfl); (case hg => rfl); (case hr => first | (go_simp; done) | (go_simp; rfl)); intro gb185 hg w8 hbox hb; have n0_ := Aside0.mk (blk_below (g := gb184) (o := .cells #[.int .i64 0, .int .i64 0, .int .i64 0] 25 (0, 0)) (by (with_reducible repeat (first | refine blk_drewN ?_ _ | refine blk_drew ?_ | refine blk_alloc ?_ _)); exact BK184.out) hb); have n1_ := Aside0.mk (below_step (by repeat (first | (with_reducible first | exact HB.out | apply below_alloc | apply pw_below_drewN | apply below_drew1 | refine below_set ?_ GE184.out) | exact HB.out)) hb); have n2_ := Aside0.mk (hbox); have n3_ := Aside0.mk ((by rw [hg]; exact (below_size (by repeat (first | (with_reducible first | exact HB.out | apply below_alloc | apply pw_below_drewN | apply below_drew1 | refine below_set ?_ GE184.out) | exact HB.out))) : w.heap.size ≤ gb185)); have n4_ := Aside0.mk ((by rw [hg]; exact (below_size (by repeat (first | (with_reducible first | exact HB.out | apply below_alloc | apply pw_below_drewN | apply below_drew1 | refine below_set ?_ GE184.out) | exact HB.out))) : w.heap.size ≤ gb185)); have n5_ := Aside0.mk ((by rw [hg]; exact Nat.ne_of_lt (blk_lt (g := gb184) (o := .cells #[.int .i64 0, .int .i64 0, .int .i64 0] 25 (0, 0)) (by (with_reducible repeat (first | refine blk_drewN ?_ _ | refine blk_drew ?_ | refine blk_alloc ?_ _)); exact BK184.out)) : gb184 ≠ gb185)); have n6_ := Aside0.mk ((by rw [hg]; exact Nat.ne_of_gt (blk_lt (g := gb184) (o := .cells #[.int .i64 0, .int .i64 0, .int .i64 0] 25 (0, 0)) (by (with_reducible repeat (first | refine blk_drewN ?_ _ | refine blk_drew ?_ | refine blk_alloc ?_ _)); exact BK184.out)) : gb185 ≠ gb184)); clear BK184; clear HB; have BK184 := n0_; have HB := n1_; have BK185 := n2_; have GW185 := n3_; have GE185 := n4_; have NB184_185 := n5_; have NB185_184 := n6_; clear n0_ n1_ n2_ n3_ n4_ n5_ n6_; clear hb hbox hg) | ((with_reducible refine gate_callee (f := 41) rfl ?_); refine goesL_ (some 12) rfl rfl Try.func41 (by kernel_rfl) rfl #[.slice A0 l0.length c0] rfl (by (try simp only [List.map_toArray, List.map_cons, List.map_nil]); first | done | rfl | (simp only [List.length_drop, List.length_take]; rfl)) ?_; (with_reducible refine (spec_l1New.calls k _ _ l0 t186 t187 t188 w _ ?side1 ?side2 ?side3 A2.out).mono ?_); (case side1 => repeat (first | (with_reducible first | exact HB.out | apply below_alloc | apply pw_below_drewN | apply below_drew1 | refine below_set ?_ GE184.out | refine below_set ?_ GE185.out) | exact HB.out)); (case side2 => exact HR0.out); (case side3 => exact HC0.out); rintro e w9 ⟨g189, rfl, hi, hb, hb2⟩; refine ⟨_, rfl, ?_⟩; have n0_ := Aside0.mk (blk_below (g := gb184) (o := .cells #[.int .i64 0, .int .i64 0, .int .i64 0] 25 (0, 0)) (by (with_reducible repeat (first | refine blk_drewN ?_ _ | refine blk_drew ?_ | refine blk_alloc ?_ _)); exact BK184.out) hb2); have n1_ := Aside0.mk (blk_below (g := gb185) (o := .cells #[.int .i64 0, .int .i64 0, .int .i64 0] 25 (0, 0)) (by (with_reducible repeat (first | refine blk_drewN ?_ _ | refine blk_drew ?_ | refine blk_alloc ?_ _)); exact BK185.out) hb2); have n2_ := Aside0.mk (hb); have n3_ := Aside0.mk (hi); have n4_ := Aside0.mk (IsS80.ne_blk hi (blk_below (g := gb184) (o := .cells #[.int .i64 0, .int .i64 0, .int .i64 0] 25 (0, 0)) (by (with_reducible repeat (first | refine blk_drewN ?_ _ | refine blk_drew ?_ | refine blk_alloc ?_ _)); exact BK184.out) hb2) (by decide)); have n5_ := Aside0.mk (Ne.symm (IsS80.ne_blk hi (blk_below (g := gb184) (o := .cells #[.int .i64 0, .int .i64 0, .int .i64 0] 25 (0, 0)) (by (with_reducible repeat (first | refine blk_drewN ?_ _ | refine blk_drew ?_ | refine blk_alloc ?_ _)); exact BK184.out) hb2) (by decide))); have n6_ := Aside0.mk (IsS80.ne_blk hi (blk_below (g := gb185) (o := .cells #[.int .i64 0, .int .i64 0, .int .i64 0] 25 (0, 0)) (by (with_reducible repeat (first | refine blk_drewN ?_ _ | refine blk_drew ?_ | refine blk_alloc ?_ _)); exact BK185.out) hb2) (by decide)); have n7_ := Aside0.mk (Ne.symm (IsS80.ne_blk hi (blk_below (g := gb185) (o := .cells #[.int .i64 0, .int .i64 0, .int .i64 0] 25 (0, 0)) (by (with_reducible repeat (first | refine blk_drewN ?_ _ | refine blk_drew ?_ | refine blk_alloc ?_ _)); exact BK185.out) hb2) (by decide))); clear BK184; clear BK185; clear HB; have BK184 := n0_; have BK185 := n1_; have HB := n2_; have HI189 := n3_; have NB189_184 := n4_; have NB184_189 := n5_; have NB189_185 := n6_; have NB185_189 := n7_; clear n0_ n1_ n2_ n3_ n4_ n5_ n6_ n7_; (try clear hb); (try clear hb2); (try clear hk); (try clear hi)) | ((with_reducible refine gate_callee (f := 42) rfl ?_); refine goesL_ (some 14) rfl rfl Try.func42 (by kernel_rfl) rfl #[.pointer (some ⟨g189, 0, none⟩)] rfl (by (try simp only [List.map_toArray, List.map_cons, List.map_nil]); first | done | rfl | (simp only [List.length_drop, List.length_take]; rfl)) ?_; (with_reducible refine (spec_l9DrawRgb.calls k g189 t186 t187 t188 t190 t191 t192 t193 t194 w _ ?side1 ?side2 A3.out).mono ?_); (case side1 => repeat (first | (with_reducible first | exact HI189.out | apply IsS80.alloc | apply IsS80.drewN | apply IsS80.drew | apply IsS80.set_1 | apply IsS80.set_2 | refine IsS80.far ?_ NB189_184.out _ | refine IsS80.far ?_ NB189_185.out _) | exact HI189.out)); (case side2 => repeat (first | (with_reducible first | exact HB.out | apply below_alloc | apply pw_below_drewN | apply below_drew1 | refine below_set ?_ (IsS80.ge HI189.out) | refine below_set ?_ GE184.out | refine below_set ?_ GE185.out) | exact HB.out)); rintro e w10 ⟨rfl, hi, hb, hk⟩; refine ⟨_, rfl, ?_⟩; have n0_ := Aside0.mk (KeepBut.blk hk (g' := gb184) (o := .cells #[.int .i64 0, .int .i64 0, .int .i64 0] 25 (0, 0)) (by (with_reducible repeat (first | refine blk_drewN ?_ _ | refine blk_drew ?_ | refine blk_alloc ?_ _)); exact BK184.out) NB184_189.out (by simp)); have n1_ := Aside0.mk (KeepBut.blk hk (g' := gb185) (o := .cells #[.int .i64 0, .int .i64 0, .int .i64 0] 25 (0, 0)) (by (with_reducible repeat (first | refine blk_drewN ?_ _ | refine blk_drew ?_ | refine blk_alloc ?_ _)); exact BK185.out) NB185_189.out (by simp)); have n2_ := Aside0.mk (hb); have n3_ := Aside0.mk (hi); clear BK184; clear BK185; clear HB; clear HI189; have BK184 := n0_; have BK185 := n1_; have HB := n2_; have HI189 := n3_; clear n0_ n1_ n2_ n3_; (try clear hb); (try clear hb2); (try clear hk); (try clear hi)) | ((with_reducible refine gate_dst (N := 7) rfl ?_); refine box_event ?hg (N := 7) ?hd (cs := #[.int .i64 0, .int .i64 0, .int .i64 0]) (t := 25) ?hr ?_; (case hd => rfl); (case hg => rfl); (case hr => first | (go_simp; done) | (go_simp; rfl)); intro gb195 hg w11 hbox hb; have n0_ := Aside0.mk (blk_below (g := gb184) (o := .cells #[.int .i64 0, .int .i64 0, .int .i64 0] 25 (0, 0)) (by (with_reducible repeat (first | refine blk_drewN ?_ _ | refine blk_drew ?_ | refine blk_alloc ?_ _)); exact BK184.out) hb); have n1_ := Aside0.mk (blk_below (g := gb185) (o := .cells #[.int .i64 0, .int .i64 0, .int .i64 0] 25 (0, 0)) (by (with_reducible repeat (first | refine blk_drewN ?_ _ | refine blk_drew ?_ | refine blk_alloc ?_ _)); exact BK185.out) hb); have n2_ := Aside0.mk (IsS80.below (by repeat (first | (with_reducible first | exact HI189.out | apply IsS80.alloc | apply IsS80.drewN | apply IsS80.drew | apply IsS80.set_1 | apply IsS80.set_2 | refine IsS80.far ?_ NB189_184.out _ | refine IsS80.far ?_ NB189_185.out _) | exact HI189.out)) hb); have n3_ := Aside0.mk (below_step (by repeat (first | (with_reducible first | exact HB.out | apply below_alloc | apply pw_below_drewN | apply below_drew1 | refine below_set ?_ (IsS80.ge HI189.out) | refine below_set ?_ GE184.out | refine below_set ?_ GE185.out) | exact HB.out)) hb); have n4_ := Aside0.mk (hbox); have n5_ := Aside0.mk ((by rw [hg]; exact (below_size (by repeat (first | (with_reducible first | exact HB.out | apply below_alloc | apply pw_below_drewN | apply below_drew1 | refine below_set ?_ (IsS80.ge HI189.out) | refine below_set ?_ GE184.out | refine below_set ?_ GE185.out) | exact HB.out))) : w.heap.size ≤ gb195)); have n6_ := Aside0.mk ((by rw [hg]; exact (below_size (by repeat (first | (with_reducible first | exact HB.out | apply below_alloc | apply pw_below_drewN | apply below_drew1 | refine below_set ?_ (IsS80.ge HI189.out) | refine below_set ?_ GE184.out | refine below_set ?_ GE185.out) | exact HB.out))) : w.heap.size ≤ gb195)); have n7_ := Aside0.mk ((by rw [hg]; exact Nat.ne_of_lt (blk_lt (g := gb184) (o := .cells #[.int .i64 0, .int .i64 0, .int .i64 0] 25 (0, 0)) (by (with_reducible repeat (first | refine blk_drewN ?_ _ | refine blk_drew ?_ | refine blk_alloc ?_ _)); exact BK184.out)) : gb184 ≠ gb195)); have n8_ := Aside0.mk ((by rw [hg]; exact Nat.ne_of_gt (blk_lt (g := gb184) (o := .cells #[.int .i64 0, .int .i64 0, .int .i64 0] 25 (0, 0)) (by (with_reducible repeat (first | refine blk_drewN ?_ _ | refine blk_drew ?_ | refine blk_alloc ?_ _)); exact BK184.out)) : gb195 ≠ gb184)); have n9_ := Aside0.mk ((by rw [hg]; exact Nat.ne_of_lt (blk_lt (g := gb185) (o := .cells #[.int .i64 0, .int .i64 0, .int .i64 0] 25 (0, 0)) (by (with_reducible repeat (first | refine blk_drewN ?_ _ | refine blk_drew ?_ | refine blk_alloc ?_ _)); exact BK185.out)) : gb185 ≠ gb195)); have n10_ := Aside0.mk ((by rw [hg]; exact Nat.ne_of_gt (blk_lt (g := gb185) (o := .cells #[.int .i64 0, .int .i64 0, .int .i64 0] 25 (0, 0)) (by (with_reducible repeat (first | refine blk_drewN ?_ _ | refine blk_drew ?_ | refine blk_alloc ?_ _)); exact BK185.out)) : gb195 ≠ gb185)); have n11_ := Aside0.mk ((by rw [hg]; exact Nat.ne_of_lt (IsS80.lt (show IsS80 w _ g189 t186 t193 t194 from by repeat (first | (with_reducible first | exact HI189.out | apply IsS80.alloc | apply IsS80.drewN | apply IsS80.drew | apply IsS80.set_1 | apply IsS80.set_2 | refine IsS80.far ?_ NB189_184.out _ | refine IsS80.far ?_ NB189_185.out _) | exact HI189.out))) : g189 ≠ gb195)); have n12_ := Aside0.mk ((by rw [hg]; exact Nat.ne_of_gt (IsS80.lt (show IsS80 w _ g189 t186 t193 t194 from by repeat (first | (with_reducible first | exact HI189.out | apply IsS80.alloc | apply IsS80.drewN | apply IsS80.drew | apply IsS80.set_1 | apply IsS80.set_2 | refine IsS80.far ?_ NB189_184.out _ | refine IsS80.far ?_ NB189_185.out _) | exact HI189.out))) : gb195 ≠ g189)); clear BK184; clear BK185; clear HI189; clear HB; have BK184 := n0_; have BK185 := n1_; have HI189 := n2_; have HB := n3_; have BK195 := n4_; have GW195 := n5_; have GE195 := n6_; have NB184_195 := n7_; have NB195_184 := n8_; have NB185_195 := n9_; have NB195_185 := n10_; have NB189_195 := n11_; have NB195_189 := n12_; clear n0_ n1_ n2_ n3_ n4_ n5_ n6_ n7_ n8_ n9_ n10_ n11_ n12_; clear hb hbox hg; have hnb12 := NB195_184.out; have hnc12 := NB184_195.out; have hnb13 := NB195_185.out; have hnc13 := NB185_195.out; have hnb14 := NB195_189.out; have hnc14 := NB189_195.out; have hcz15_0 : w11.cell? ⟨gb195, 0, none⟩ = some (.int .i64 0) := (blk_cell BK195.out 0).trans rfl; have hcz15_1 : w11.cell? ⟨gb195, 1, none⟩ = some (.int .i64 0) := (blk_cell BK195.out 1).trans rfl; have hcz15_2 : w11.cell? ⟨gb195, 2, none⟩ = some (.int .i64 0) := (blk_cell BK195.out 2).trans rfl; have hfz15_0 := blk_frozen BK195.out 0; have hfz15_1 := blk_frozen BK195.out 1; have hfz15_2 := blk_frozen BK195.out 2) | ((with_reducible refine gate_callee (f := 42) rfl ?_); refine goesL_ (some 16) rfl rfl Try.func42 (by kernel_rfl) rfl #[.pointer (some ⟨g189, 0, none⟩)] rfl (by (try simp only [List.map_toArray, List.map_cons, List.map_nil]); first | done | rfl | (simp only [List.length_drop, List.length_take]; rfl)) ?_; (with_reducible refine (spec_l9DrawRgb.calls k g189 t186 t193 t194 t196 t197 t198 t199 t200 w _ ?side1 ?side2 A4.out).mono ?_); (case side1 => repeat (first | (with_reducible first | exact HI189.out | apply IsS80.alloc | apply IsS80.drewN | apply IsS80.drew | apply IsS80.set_1 | apply IsS80.set_2 | refine IsS80.far ?_ NB189_184.out _ | refine IsS80.far ?_ NB189_185.out _ | refine IsS80.far ?_ NB189_195.out _) | exact HI189.out)); (case side2 => repeat (first | (with_reducible first | exact HB.out | apply below_alloc | apply pw_below_drewN | apply below_drew1 | refine below_set ?_ (IsS80.ge HI189.out) | refine below_set ?_ GE184.out | refine below_set ?_ GE185.out | refine below_set ?_ GE195.out) | exact HB.out)); rintro e w16 ⟨rfl, hi, hb, hk⟩; refine ⟨_, rfl, ?_⟩; have n0_ := Aside0.mk (KeepBut.blk hk (g' := gb184) (o := .cells #[.int .i64 0, .int .i64 0, .int .i64 0] 25 (0, 0)) (by (with_reducible repeat (first | refine blk_drewN ?_ _ | refine blk_drew ?_ | refine blk_alloc ?_ _)); refine blk_far ?_ NB184_195.out _; (with_reducible repeat (first | refine blk_drewN ?_ _ | refine blk_drew ?_ | refine blk_alloc ?_ _)); refine blk_far ?_ NB184_195.out _; (with_reducible repeat (first | refine blk_drewN ?_ _ | refine blk_drew ?_ | refine blk_alloc ?_ _)); refine blk_far ?_ NB184_195.out _; (with_reducible repeat (first | refine blk_drewN ?_ _ | refine blk_drew ?_ | refine blk_alloc ?_ _)); exact BK184.out) NB184_189.out (by simp)); have n1_ := Aside0.mk (KeepBut.blk hk (g' := gb185) (o := .cells #[.int .i64 0, .int .i64 0, .int .i64 0] 25 (0, 0)) (by (with_reducible repeat (first | refine blk_drewN ?_ _ | refine blk_drew ?_ | refine blk_alloc ?_ _)); refine blk_far ?_ NB185_195.out _; (with_reducible repeat (first | refine blk_drewN ?_ _ | refine blk_drew ?_ | refine blk_alloc ?_ _)); refine blk_far ?_ NB185_195.out _; (with_reducible repeat (first | refine blk_drewN ?_ _ | refine blk_drew ?_ | refine blk_alloc ?_ _)); refine blk_far ?_ NB185_195.out _; (with_reducible repeat (first | refine blk_drewN ?_ _ | refine blk_drew ?_ | refine blk_alloc ?_ _)); exact BK185.out) NB185_189.out (by simp)); have n2_ := Aside0.mk (KeepBut.blk hk (g' := gb195) (o := .cells #[.int .i64 t190, .int .i64 t191, .int .i64 t192] 25 (0, 0)) (by (with_reducible repeat (first | refine blk_drewN ?_ _ | refine blk_drew ?_ | refine blk_alloc ?_ _)); refine blk_put (cs := #[.int .i64 t190, .int .i64 t191, .int .i64 0]) ?_ 2 _ rfl; (with_reducible repeat (first | refine blk_drewN ?_ _ | refine blk_drew ?_ | refine blk_alloc ?_ _)); refine blk_put (cs := #[.int .i64 t190, .int .i64 0, .int .i64 0]) ?_ 1 _ rfl; (with_reducible repeat (first | refine blk_drewN ?_ _ | refine blk_drew ?_ | refine blk_alloc ?_ _)); refine blk_put (cs := #[.int .i64 0, .int .i64 0, .int .i64 0]) ?_ 0 _ rfl; (with_reducible repeat (first | refine blk_drewN ?_ _ | refine blk_drew ?_ | refine blk_alloc ?_ _)); exact BK195.out) NB195_189.out (by simp)); have n3_ := Aside0.mk (hb); have n4_ := Aside0.mk (hi); clear BK184; clear BK185; clear BK195; clear HB; clear HI189; have BK184 := n0_; have BK185 := n1_; have BK195 := n2_; have HB := n3_; have HI189 := n4_; clear n0_ n1_ n2_ n3_ n4_; (try clear hb); (try clear hb2); (try clear hk); (try clear hi)) | ((with_reducible refine gate_dst (N := 8) rfl ?_); refine box_event ?hg (N := 8) ?hd (cs := #[.int .i64 0, .int .i64 0, .int .i64 0]) (t := 25) ?hr ?_; (case hd => rfl); (case hg => rfl); (case hr => first | (go_simp; done) | (go_simp; rfl)); intro gb201 hg w17 hbox hb; have n0_ := Aside0.mk (blk_below (g := gb184) (o := .cells #[.int .i64 0, .int .i64 0, .int .i64 0] 25 (0, 0)) (by (with_reducible repeat (first | refine blk_drewN ?_ _ | refine blk_drew ?_ | refine blk_alloc ?_ _)); exact BK184.out) hb); have n1_ := Aside0.mk (blk_below (g := gb185) (o := .cells #[.int .i64 0, .int .i64 0, .int .i64 0] 25 (0, 0)) (by (with_reducible repeat (first | refine blk_drewN ?_ _ | refine blk_drew ?_ | refine blk_alloc ?_ _)); exact BK185.out) hb); have n2_ := Aside0.mk (IsS80.below (by repeat (first | (with_reducible first | exact HI189.out | apply IsS80.alloc | apply IsS80.drewN | apply IsS80.drew | apply IsS80.set_1 | apply IsS80.set_2 | refine IsS80.far ?_ NB189_184.out _ | refine IsS80.far ?_ NB189_185.out _ | refine IsS80.far ?_ NB189_195.out _) | exact HI189.out)) hb); have n3_ := Aside0.mk (blk_below (g := gb195) (o := .cells #[.int .i64 t190, .int .i64 t191, .int .i64 t192] 25 (0, 0)) (by (with_reducible repeat (first | refine blk_drewN ?_ _ | refine blk_drew ?_ | refine blk_alloc ?_ _)); exact BK195.out) hb); have n4_ := Aside0.mk (below_step (by repeat (first | (with_reducible first | exact HB.out | apply below_alloc | apply pw_below_drewN | apply below_drew1 | refine below_set ?_ (IsS80.ge HI189.out) | refine below_set ?_ GE184.out | refine below_set ?_ GE185.out | refine below_set ?_ GE195.out) | exact HB.out)) hb); have n5_ := Aside0.mk (hbox); have n6_ := Aside0.mk ((by rw [hg]; exact (below_size (by repeat (first | (with_reducible first | exact HB.out | apply below_alloc | apply pw_below_drewN | apply below_drew1 | refine below_set ?_ (IsS80.ge HI189.out) | refine below_set ?_ GE184.out | refine below_set ?_ GE185.out | refine below_set ?_ GE195.out) | exact HB.out))) : w.heap.size ≤ gb201)); have n7_ := Aside0.mk ((by rw [hg]; exact (below_size (by repeat (first | (with_reducible first | exact HB.out | apply below_alloc | apply pw_below_drewN | apply below_drew1 | refine below_set ?_ (IsS80.ge HI189.out) | refine below_set ?_ GE184.out | refine below_set ?_ GE185.out | refine below_set ?_ GE195.out) | exact HB.out))) : w.heap.size ≤ gb201)); have n8_ := Aside0.mk ((by rw [hg]; exact Nat.ne_of_lt (blk_lt (g := gb184) (o := .cells #[.int .i64 0, .int .i64 0, .int .i64 0] 25 (0, 0)) (by (with_reducible repeat (first | refine blk_drewN ?_ _ | refine blk_drew ?_ | refine blk_alloc ?_ _)); exact BK184.out)) : gb184 ≠ gb201)); have n9_ := Aside0.mk ((by rw [hg]; exact Nat.ne_of_gt (blk_lt (g := gb184) (o := .cells #[.int .i64 0, .int .i64 0, .int .i64 0] 25 (0, 0)) (by (with_reducible repeat (first | refine blk_drewN ?_ _ | refine blk_drew ?_ | refine blk_alloc ?_ _)); exact BK184.out)) : gb201 ≠ gb184)); have n10_ := Aside0.mk ((by rw [hg]; exact Nat.ne_of_lt (blk_lt (g := gb185) (o := .cells #[.int .i64 0, .int .i64 0, .int .i64 0] 25 (0, 0)) (by (with_reducible repeat (first | refine blk_drewN ?_ _ | refine blk_drew ?_ | refine blk_alloc ?_ _)); exact BK185.out)) : gb185 ≠ gb201)); have n11_ := Aside0.mk ((by rw [hg]; exact Nat.ne_of_gt (blk_lt (g := gb185) (o := .cells #[.int .i64 0, .int .i64 0, .int .i64 0] 25 (0, 0)) (by (with_reducible repeat (first | refine blk_drewN ?_ _ | refine blk_drew ?_ | refine blk_alloc ?_ _)); exact BK185.out)) : gb201 ≠ gb185)); have n12_ := Aside0.mk ((by rw [hg]; exact Nat.ne_of_lt (blk_lt (g := gb195) (o := .cells #[.int .i64 t190, .int .i64 t191, .int .i64 t192] 25 (0, 0)) (by (with_reducible repeat (first | refine blk_drewN ?_ _ | refine blk_drew ?_ | refine blk_alloc ?_ _)); exact BK195.out)) : gb195 ≠ gb201)); have n13_ := Aside0.mk ((by rw [hg]; exact Nat.ne_of_gt (blk_lt (g := gb195) (o := .cells #[.int .i64 t190, .int .i64 t191, .int .i64 t192] 25 (0, 0)) (by (with_reducible repeat (first | refine blk_drewN ?_ _ | refine blk_drew ?_ | refine blk_alloc ?_ _)); exact BK195.out)) : gb201 ≠ gb195)); have n14_ := Aside0.mk ((by rw [hg]; exact Nat.ne_of_lt (IsS80.lt (show IsS80 w _ g189 t186 t199 t200 from by repeat (first | (with_reducible first | exact HI189.out | apply IsS80.alloc | apply IsS80.drewN | apply IsS80.drew | apply IsS80.set_1 | apply IsS80.set_2 | refine IsS80.far ?_ NB189_184.out _ | refine IsS80.far ?_ NB189_185.out _ | refine IsS80.far ?_ NB189_195.out _) | exact HI189.out))) : g189 ≠ gb201)); have n15_ := Aside0.mk ((by rw [hg]; exact Nat.ne_of_gt (IsS80.lt (show IsS80 w _ g189 t186 t199 t200 from by repeat (first | (with_reducible first | exact HI189.out | apply IsS80.alloc | apply IsS80.drewN | apply IsS80.drew | apply IsS80.set_1 | apply IsS80.set_2 | refine IsS80.far ?_ NB189_184.out _ | refine IsS80.far ?_ NB189_185.out _ | refine IsS80.far ?_ NB189_195.out _) | exact HI189.out))) : gb201 ≠ g189)); clear BK184; clear BK185; clear HI189; clear BK195; clear HB; have BK184 := n0_; have BK185 := n1_; have HI189 := n2_; have BK195 := n3_; have HB := n4_; have BK201 := n5_; have GW201 := n6_; have GE201 := n7_; have NB184_201 := n8_; have NB201_184 := n9_; have NB185_201 := n10_; have NB201_185 := n11_; have NB195_201 := n12_; have NB201_195 := n13_; have NB189_201 := n14_; have NB201_189 := n15_; clear n0_ n1_ n2_ n3_ n4_ n5_ n6_ n7_ n8_ n9_ n10_ n11_ n12_ n13_ n14_ n15_; clear hb hbox hg; have hnb18 := NB201_184.out; have hnc18 := NB184_201.out; have hnb19 := NB201_185.out; have hnc19 := NB185_201.out; have hnb20 := NB201_195.out; have hnc20 := NB195_201.out; have hnb21 := NB201_189.out; have hnc21 := NB189_201.out; have hcz22_0 : w17.cell? ⟨gb201, 0, none⟩ = some (.int .i64 0) := (blk_cell BK201.out 0).trans rfl; have hcz22_1 : w17.cell? ⟨gb201, 1, none⟩ = some (.int .i64 0) := (blk_cell BK201.out 1).trans rfl; have hcz22_2 : w17.cell? ⟨gb201, 2, none⟩ = some (.int .i64 0) := (blk_cell BK201.out 2).trans rfl; have hfz22_0 := blk_frozen BK201.out 0; have hfz22_1 := blk_frozen BK201.out 1; have hfz22_2 := blk_frozen BK201.out 2) | ((with_reducible refine gate_callee (f := 43) rfl ?_); refine goesL_ (some 18) rfl rfl Try.func43 (by kernel_rfl) rfl #[.pointer (some ⟨g189, 0, none⟩), .int .i64 2] rfl (by (try simp only [List.map_toArray, List.map_cons, List.map_nil]); first | done | rfl | (simp only [List.length_drop, List.length_take]; rfl)) ?_; (with_reducible refine (spec_l1Once.calls g189 t186 t199 t200 2 t202 t203 t204 w _ ?side1 ?side2 A5.out).mono ?_); (case side1 => repeat (first | (with_reducible first | exact HI189.out | apply IsS80.alloc | apply IsS80.drewN | apply IsS80.drew | apply IsS80.set_1 | apply IsS80.set_2 | refine IsS80.far ?_ NB189_184.out _ | refine IsS80.far ?_ NB189_185.out _ | refine IsS80.far ?_ NB189_195.out _ | refine IsS80.far ?_ NB189_201.out _) | exact HI189.out)); (case side2 => repeat (first | (with_reducible first | exact HB.out | apply below_alloc | apply pw_below_drewN | apply below_drew1 | refine below_set ?_ (IsS80.ge HI189.out) | refine below_set ?_ GE184.out | refine below_set ?_ GE185.out | refine below_set ?_ GE195.out | refine below_set ?_ GE201.out) | exact HB.out)); rintro e w23 ⟨rfl, hi, hb, hk⟩; refine ⟨_, rfl, ?_⟩; have n0_ := Aside0.mk (KeepBut.blk hk (g' := gb184) (o := .cells #[.int .i64 0, .int .i64 0, .int .i64 0] 25 (0, 0)) (by (with_reducible repeat (first | refine blk_drewN ?_ _ | refine blk_drew ?_ | refine blk_alloc ?_ _)); refine blk_far ?_ NB184_201.out _; (with_reducible repeat (first | refine blk_drewN ?_ _ | refine blk_drew ?_ | refine blk_alloc ?_ _)); refine blk_far ?_ NB184_201.out _; (with_reducible repeat (first | refine blk_drewN ?_ _ | refine blk_drew ?_ | refine blk_alloc ?_ _)); refine blk_far ?_ NB184_201.out _; (with_reducible repeat (first | refine blk_drewN ?_ _ | refine blk_drew ?_ | refine blk_alloc ?_ _)); exact BK184.out) NB184_189.out (by simp)); have n1_ := Aside0.mk (KeepBut.blk hk (g' := gb185) (o := .cells #[.int .i64 0, .int .i64 0, .int .i64 0] 25 (0, 0)) (by (with_reducible repeat (first | refine blk_drewN ?_ _ | refine blk_drew ?_ | refine blk_alloc ?_ _)); refine blk_far ?_ NB185_201.out _; (with_reducible repeat (first | refine blk_drewN ?_ _ | refine blk_drew ?_ | refine blk_alloc ?_ _)); refine blk_far ?_ NB185_201.out _; (with_reducible repeat (first | refine blk_drewN ?_ _ | refine blk_drew ?_ | refine blk_alloc ?_ _)); refine blk_far ?_ NB185_201.out _; (with_reducible repeat (first | refine blk_drewN ?_ _ | refine blk_drew ?_ | refine blk_alloc ?_ _)); exact BK185.out) NB185_189.out (by simp)); have n2_ := Aside0.mk (KeepBut.blk hk (g' := gb195) (o := .cells #[.int .i64 t190, .int .i64 t191, .int .i64 t192] 25 (0, 0)) (by (with_reducible repeat (first | refine blk_drewN ?_ _ | refine blk_drew ?_ | refine blk_alloc ?_ _)); refine blk_far ?_ NB195_201.out _; (with_reducible repeat (first | refine blk_drewN ?_ _ | refine blk_drew ?_ | refine blk_alloc ?_ _)); refine blk_far ?_ NB195_201.out _; (with_reducible repeat (first | refine blk_drewN ?_ _ | refine blk_drew ?_ | refine blk_alloc ?_ _)); refine blk_far ?_ NB195_201.out _; (with_reducible repeat (first | refine blk_drewN ?_ _ | refine blk_drew ?_ | refine blk_alloc ?_ _)); exact BK195.out) NB195_189.out (by simp)); have n3_ := Aside0.mk (KeepBut.blk hk (g' := gb201) (o := .cells #[.int .i64 t196, .int .i64 t197, .int .i64 t198] 25 (0, 0)) (by (with_reducible repeat (first | refine blk_drewN ?_ _ | refine blk_drew ?_ | refine blk_alloc ?_ _)); refine blk_put (cs := #[.int .i64 t196, .int .i64 t197, .int .i64 0]) ?_ 2 _ rfl; (with_reducible repeat (first | refine blk_drewN ?_ _ | refine blk_drew ?_ | refine blk_alloc ?_ _)); refine blk_put (cs := #[.int .i64 t196, .int .i64 0, .int .i64 0]) ?_ 1 _ rfl; (with_reducible repeat (first | refine blk_drewN ?_ _ | refine blk_drew ?_ | refine blk_alloc ?_ _)); refine blk_put (cs := #[.int .i64 0, .int .i64 0, .int .i64 0]) ?_ 0 _ rfl; (with_reducible repeat (first | refine blk_drewN ?_ _ | refine blk_drew ?_ | refine blk_alloc ?_ _)); exact BK201.out) NB201_189.out (by simp)); have n4_ := Aside0.mk (hb); have n5_ := Aside0.mk (hi); clear BK184; clear BK185; clear BK195; clear BK201; clear HB; clear HI189; have BK184 := n0_; have BK185 := n1_; have BK195 := n2_; have BK201 := n3_; have HB := n4_; have HI189 := n5_; clear n0_ n1_ n2_ n3_ n4_ n5_; (try clear hb); (try clear hb2); (try clear hk); (try clear hi)))
  (try simp only [Act.put, List.setIfInBounds_toArray, List.set_cons_zero, List.set_cons_succ])
  go_cut [] (fun wc => ∃ (kq : Nat) (x190001_5 : Int) (x190002_5 : Int) (x202000_5 : Int) (x202001_5 : Int) (x202002_5 : Int), Aside0 (spec_DrawKeyMask.j0 kq t186 x190001_5 x190002_5 t190 t191 t192 x202000_5 x202001_5 x202002_5 = some (r1, r2, r3, r4, r5, r6, r7, r8)) ∧ Aside0 (kq ≤ k) ∧ Aside0 (wc.heap[gb184]? = some (.cells #[.int .i64 0, .int .i64 0, .int .i64 0] 25 (0, 0))) ∧ Aside0 (wc.heap[gb185]? = some (.cells #[.int .i64 0, .int .i64 0, .int .i64 0] 25 (0, 0))) ∧ Aside0 (wc.heap[gb195]? = some (.cells #[.int .i64 t190, .int .i64 t191, .int .i64 t192] 25 (0, 0))) ∧ Aside0 (wc.heap[gb201]? = some (.cells #[.int .i64 x202000_5, .int .i64 x202001_5, .int .i64 x202002_5] 25 (0, 0))) ∧ Aside0 (IsS80 w wc g189 t186 x190001_5 x190002_5) ∧ Aside0 (Below w.heap.size w wc))
  case first =>
    have H := HC6.out
    clear HC6
    by_cases c24 : t202 = true
    · subst c24
      have H1 : ((spec_l1Below.f t186 t203 t204 2000).bind fun bt205 => ((spec_l1Min.f 65535 (wrap64 (t191 + bt205.1))).bind fun t208 => (spec_DrawKeyMask.j0 k t186 bt205.2.1 bt205.2.2 t190 t191 t192 t190 t208 t192))) = some (r1, r2, r3, r4, r5, r6, r7, r8) := by rw [if_pos rfl] at H; exact H
      clear H
      have H := H1
      clear H1
      replace H := Option.bind_eq_some_iff.mp H
      obtain ⟨⟨t205, t206, t207⟩, A250, H⟩ := H
      replace H : ((spec_l1Min.f 65535 (wrap64 (t191 + t205))).bind fun t208 => (spec_DrawKeyMask.j0 k t186 t206 t207 t190 t191 t192 t190 t208 t192)) = some (r1, r2, r3, r4, r5, r6, r7, r8) := H
      have A25 := Aside0.mk A250
      clear A250
      replace H := Option.bind_eq_some_iff.mp H
      obtain ⟨t208, A260, H⟩ := H
      replace H : (spec_DrawKeyMask.j0 k t186 t206 t207 t190 t191 t192 t190 t208 t192) = some (r1, r2, r3, r4, r5, r6, r7, r8) := H
      have A26 := Aside0.mk A260
      clear A260
      have H' := Aside0.mk H
      clear H
      have hnb27 := NB195_184.out
      have hnc27 := NB184_195.out
      have hnb28 := NB195_185.out
      have hnc28 := NB185_195.out
      have hnb29 := NB195_201.out
      have hnc29 := NB201_195.out
      have hnb30 := NB195_189.out
      have hnc30 := NB189_195.out
      have hcz31_0 : w23.cell? ⟨gb195, 0, none⟩ = some (.int .i64 t190) := (blk_cell BK195.out 0).trans rfl
      have hcz31_1 : w23.cell? ⟨gb195, 1, none⟩ = some (.int .i64 t191) := (blk_cell BK195.out 1).trans rfl
      have hcz31_2 : w23.cell? ⟨gb195, 2, none⟩ = some (.int .i64 t192) := (blk_cell BK195.out 2).trans rfl
      have hfz31_0 := blk_frozen BK195.out 0
      have hfz31_1 := blk_frozen BK195.out 1
      have hfz31_2 := blk_frozen BK195.out 2
      have hnb32 := NB201_184.out
      have hnc32 := NB184_201.out
      have hnb33 := NB201_185.out
      have hnc33 := NB185_201.out
      have hnb34 := NB201_189.out
      have hnc34 := NB189_201.out
      have hcz35_0 : w23.cell? ⟨gb201, 0, none⟩ = some (.int .i64 t196) := (blk_cell BK201.out 0).trans rfl
      have hcz35_1 : w23.cell? ⟨gb201, 1, none⟩ = some (.int .i64 t197) := (blk_cell BK201.out 1).trans rfl
      have hcz35_2 : w23.cell? ⟨gb201, 2, none⟩ = some (.int .i64 t198) := (blk_cell BK201.out 2).trans rfl
      have hfz35_0 := blk_frozen BK201.out 0
      have hfz35_1 := blk_frozen BK201.out 1
      have hfz35_2 := blk_frozen BK201.out 2
      try go_wp2
      have n0_ : Aside0 ((((w23.setCell ⟨gb201, 0, none⟩ (.int .i64 t190)).setCell ⟨gb201, 1, none⟩ (.int .i64 t191)).setCell ⟨gb201, 2, none⟩ (.int .i64 t192)).heap[gb184]? = some (.cells #[.int .i64 0, .int .i64 0, .int .i64 0] 25 (0, 0))) := ⟨by (with_reducible repeat (first | refine blk_drewN ?_ _ | refine blk_drew ?_ | refine blk_alloc ?_ _)); refine blk_far ?_ NB184_201.out _; (with_reducible repeat (first | refine blk_drewN ?_ _ | refine blk_drew ?_ | refine blk_alloc ?_ _)); refine blk_far ?_ NB184_201.out _; (with_reducible repeat (first | refine blk_drewN ?_ _ | refine blk_drew ?_ | refine blk_alloc ?_ _)); refine blk_far ?_ NB184_201.out _; (with_reducible repeat (first | refine blk_drewN ?_ _ | refine blk_drew ?_ | refine blk_alloc ?_ _)); exact BK184.out⟩
      have n1_ : Aside0 ((((w23.setCell ⟨gb201, 0, none⟩ (.int .i64 t190)).setCell ⟨gb201, 1, none⟩ (.int .i64 t191)).setCell ⟨gb201, 2, none⟩ (.int .i64 t192)).heap[gb185]? = some (.cells #[.int .i64 0, .int .i64 0, .int .i64 0] 25 (0, 0))) := ⟨by (with_reducible repeat (first | refine blk_drewN ?_ _ | refine blk_drew ?_ | refine blk_alloc ?_ _)); refine blk_far ?_ NB185_201.out _; (with_reducible repeat (first | refine blk_drewN ?_ _ | refine blk_drew ?_ | refine blk_alloc ?_ _)); refine blk_far ?_ NB185_201.out _; (with_reducible repeat (first | refine blk_drewN ?_ _ | refine blk_drew ?_ | refine blk_alloc ?_ _)); refine blk_far ?_ NB185_201.out _; (with_reducible repeat (first | refine blk_drewN ?_ _ | refine blk_drew ?_ | refine blk_alloc ?_ _)); exact BK185.out⟩
      have n2_ : Aside0 ((((w23.setCell ⟨gb201, 0, none⟩ (.int .i64 t190)).setCell ⟨gb201, 1, none⟩ (.int .i64 t191)).setCell ⟨gb201, 2, none⟩ (.int .i64 t192)).heap[gb195]? = some (.cells #[.int .i64 t190, .int .i64 t191, .int .i64 t192] 25 (0, 0))) := ⟨by (with_reducible repeat (first | refine blk_drewN ?_ _ | refine blk_drew ?_ | refine blk_alloc ?_ _)); refine blk_far ?_ NB195_201.out _; (with_reducible repeat (first | refine blk_drewN ?_ _ | refine blk_drew ?_ | refine blk_alloc ?_ _)); refine blk_far ?_ NB195_201.out _; (with_reducible repeat (first | refine blk_drewN ?_ _ | refine blk_drew ?_ | refine blk_alloc ?_ _)); refine blk_far ?_ NB195_201.out _; (with_reducible repeat (first | refine blk_drewN ?_ _ | refine blk_drew ?_ | refine blk_alloc ?_ _)); exact BK195.out⟩
      have n3_ : Aside0 ((((w23.setCell ⟨gb201, 0, none⟩ (.int .i64 t190)).setCell ⟨gb201, 1, none⟩ (.int .i64 t191)).setCell ⟨gb201, 2, none⟩ (.int .i64 t192)).heap[gb201]? = some (.cells #[.int .i64 t190, .int .i64 t191, .int .i64 t192] 25 (0, 0))) := ⟨by (with_reducible repeat (first | refine blk_drewN ?_ _ | refine blk_drew ?_ | refine blk_alloc ?_ _)); refine blk_put (cs := #[.int .i64 t190, .int .i64 t191, .int .i64 t198]) ?_ 2 _ rfl; (with_reducible repeat (first | refine blk_drewN ?_ _ | refine blk_drew ?_ | refine blk_alloc ?_ _)); refine blk_put (cs := #[.int .i64 t190, .int .i64 t197, .int .i64 t198]) ?_ 1 _ rfl; (with_reducible repeat (first | refine blk_drewN ?_ _ | refine blk_drew ?_ | refine blk_alloc ?_ _)); refine blk_put (cs := #[.int .i64 t196, .int .i64 t197, .int .i64 t198]) ?_ 0 _ rfl; (with_reducible repeat (first | refine blk_drewN ?_ _ | refine blk_drew ?_ | refine blk_alloc ?_ _)); exact BK201.out⟩
      have n4_ : Aside0 (IsS80 w (((w23.setCell ⟨gb201, 0, none⟩ (.int .i64 t190)).setCell ⟨gb201, 1, none⟩ (.int .i64 t191)).setCell ⟨gb201, 2, none⟩ (.int .i64 t192)) g189 t186 t203 t204) := ⟨by repeat (first | (with_reducible first | exact HI189.out | apply IsS80.alloc | apply IsS80.drewN | apply IsS80.drew | apply IsS80.set_1 | apply IsS80.set_2 | refine IsS80.far ?_ NB189_184.out _ | refine IsS80.far ?_ NB189_185.out _ | refine IsS80.far ?_ NB189_195.out _ | refine IsS80.far ?_ NB189_201.out _) | exact HI189.out)⟩
      have n5_ : Aside0 (Below w.heap.size w (((w23.setCell ⟨gb201, 0, none⟩ (.int .i64 t190)).setCell ⟨gb201, 1, none⟩ (.int .i64 t191)).setCell ⟨gb201, 2, none⟩ (.int .i64 t192))) := ⟨by repeat (first | (with_reducible first | exact HB.out | apply below_alloc | apply pw_below_drewN | apply below_drew1 | refine below_set ?_ (IsS80.ge HI189.out) | refine below_set ?_ GE184.out | refine below_set ?_ GE185.out | refine below_set ?_ GE195.out | refine below_set ?_ GE201.out) | exact HB.out)⟩
      (try clear BK184)
      (try clear BK185)
      (try clear BK195)
      (try clear BK201)
      (try clear HI189)
      (try clear HB)
      generalize (((w23.setCell ⟨gb201, 0, none⟩ (.int .i64 t190)).setCell ⟨gb201, 1, none⟩ (.int .i64 t191)).setCell ⟨gb201, 2, none⟩ (.int .i64 t192)) = w36 at n0_ n1_ n2_ n3_ n4_ n5_ ⊢
      have BK184 := n0_
      have BK185 := n1_
      have BK195 := n2_
      have BK201 := n3_
      have HI189 := n4_
      have HB := n5_
      clear n0_ n1_ n2_ n3_ n4_ n5_
      have n0_ := Aside0.mk (blk_drew BK184.out)
      have n1_ := Aside0.mk (blk_drew BK185.out)
      have n2_ := Aside0.mk (blk_drew BK195.out)
      have n3_ := Aside0.mk (blk_drew BK201.out)
      have n4_ := Aside0.mk (IsS80.drew HI189.out)
      have n5_ := Aside0.mk (below_drew1 HB.out)
      clear BK184
      clear BK185
      clear BK195
      clear BK201
      clear HI189
      clear HB
      have BK184 := n0_
      have BK185 := n1_
      have BK195 := n2_
      have BK201 := n3_
      have HI189 := n4_
      have HB := n5_
      clear n0_ n1_ n2_ n3_ n4_ n5_
      refine start_ (n := 8) (S := fun w' => w'.cell? ⟨gb201, 0, none⟩ = some (.int .i64 t190) ∧ w'.cell? ⟨gb201, 1, none⟩ = some (.int .i64 t191) ∧ w'.cell? ⟨gb201, 2, none⟩ = some (.int .i64 t192)) (ds := [7]) #[false, false, false, false, false, false, false, false] (by kernel_rfl) rfl rfl ⟨(blk_cell BK201.out 0).trans rfl, (blk_cell BK201.out 1).trans rfl, (blk_cell BK201.out 2).trans rfl⟩ (fun hHeld => ?_); refine with_tabW spec_DrawKeyMask.tab6 spec_DrawKeyMask.bits6 (fun HT_ HW_ => ?_)
      generalize w36.drew = w37 at BK184 BK185 BK195 BK201 HI189 HB hHeld ⊢
      refine pure_ (i := 0) (N := some 20) (v := ?_) (a' := ?_) #[true, false, false, false, false, false, false, false] rfl rfl (any_of HT_.out (by kernel_rfl)) (fun _ _ _ h => h) (Or.inl ⟨by rfl, ?_⟩) ?_ ?_
      rotate_left
      · intro w'
        go_simp
        with_reducible rfl
      rotate_left
      · simp only [Act.put, List.setIfInBounds_toArray, List.set_cons_zero, List.set_cons_succ, i64_w, i32_w]
        rfl
      refine pure_ (i := 2) (N := some 22) (v := ?_) (a' := ?_) #[true, false, true, false, false, false, false, false] rfl rfl (any_of HT_.out (by kernel_rfl)) (fun _ _ _ h => h) (Or.inl ⟨by rfl, ?_⟩) ?_ ?_
      rotate_left
      · intro w'
        go_simp
        with_reducible rfl
      rotate_left
      · simp only [Act.put, List.setIfInBounds_toArray, List.set_cons_zero, List.set_cons_succ, i64_w, i32_w]
        rfl
      refine take_ (i := 1) (N := some 21) (v := ?_) (a' := ?_) #[true, true, true, false, false, false, false, false] rfl rfl (take_ofW HT_.out HW_.out (by kernel_rfl)) (fun _ _ _ h => h) (Or.inl ⟨by rfl, ?_⟩) hHeld ?_ ?_
      rotate_left
      · rintro w' ⟨s0, s1, s2⟩
        go_simp
        with_reducible rfl
      rotate_left
      · simp only [Act.put, List.setIfInBounds_toArray, List.set_cons_zero, List.set_cons_succ, i64_w, i32_w]
        rfl
      refine one_ (i := 3) (N := some 23) #[true, true, true, true, false, false, false, false] rfl rfl (one_of HT_.out (by kernel_rfl)) (by decide) (fun K hK => ?_)
      refine goes_ Try.func45 (by kernel_rfl) rfl #[.pointer (some ⟨g189, 0, none⟩), .int .i64 2000] (by rfl) rfl rfl (by (try simp only [List.map_toArray, List.map_cons, List.map_nil]); first | done | rfl | (simp only [List.length_drop, List.length_take]; rfl)) ?_
      with_reducible refine (spec_l1Below.calls g189 t186 t203 t204 2000 t205 t206 t207 w _ ?side1 ?side2 A25.out).mono ?_
      (case side1 => repeat (first | (with_reducible first | exact HI189.out | apply IsS80.alloc | apply IsS80.drewN | apply IsS80.drew | apply IsS80.set_1 | apply IsS80.set_2 | refine IsS80.far ?_ NB189_184.out _ | refine IsS80.far ?_ NB189_185.out _ | refine IsS80.far ?_ NB189_195.out _ | refine IsS80.far ?_ NB189_201.out _) | exact HI189.out))
      (case side2 => repeat (first | (with_reducible first | exact HB.out | apply below_alloc | apply pw_below_drewN | apply below_drew1 | refine below_set ?_ (IsS80.ge HI189.out) | refine below_set ?_ GE184.out | refine below_set ?_ GE185.out | refine below_set ?_ GE195.out | refine below_set ?_ GE201.out) | exact HB.out))
      rintro e w38 ⟨rfl, hi, hb, hk⟩
      refine ⟨_, rfl, ?_⟩
      have n0_ := Aside0.mk (KeepBut.blk hk (g' := gb184) (o := .cells #[.int .i64 0, .int .i64 0, .int .i64 0] 25 (0, 0)) (by (with_reducible repeat (first | refine blk_drewN ?_ _ | refine blk_drew ?_ | refine blk_alloc ?_ _)); exact BK184.out) NB184_189.out (by simp))
      have n1_ := Aside0.mk (KeepBut.blk hk (g' := gb185) (o := .cells #[.int .i64 0, .int .i64 0, .int .i64 0] 25 (0, 0)) (by (with_reducible repeat (first | refine blk_drewN ?_ _ | refine blk_drew ?_ | refine blk_alloc ?_ _)); exact BK185.out) NB185_189.out (by simp))
      have n2_ := Aside0.mk (KeepBut.blk hk (g' := gb195) (o := .cells #[.int .i64 t190, .int .i64 t191, .int .i64 t192] 25 (0, 0)) (by (with_reducible repeat (first | refine blk_drewN ?_ _ | refine blk_drew ?_ | refine blk_alloc ?_ _)); exact BK195.out) NB195_189.out (by simp))
      have n3_ := Aside0.mk (KeepBut.blk hk (g' := gb201) (o := .cells #[.int .i64 t190, .int .i64 t191, .int .i64 t192] 25 (0, 0)) (by (with_reducible repeat (first | refine blk_drewN ?_ _ | refine blk_drew ?_ | refine blk_alloc ?_ _)); exact BK201.out) NB201_189.out (by simp))
      have n4_ := Aside0.mk (hb)
      have n5_ := Aside0.mk (hi)
      clear BK184
      clear BK185
      clear BK195
      clear BK201
      clear HB
      clear HI189
      have BK184 := n0_
      have BK185 := n1_
      have BK195 := n2_
      have BK201 := n3_
      have HB := n4_
      have HI189 := n5_
      clear n0_ n1_ n2_ n3_ n4_ n5_
      (try clear hb)
      (try clear hb2)
      (try clear hk)
      (try clear hi)
      refine hK.out _ _ ⟨(blk_cell BK201.out 0).trans rfl, (blk_cell BK201.out 1).trans rfl, (blk_cell BK201.out 2).trans rfl⟩ (fun hHeld => ?_)
      clear hK K
      refine norm_ (a' := ?_) ?_ ?_
      rotate_left
      · show Act.put _ (some 23) _ = _
        simp only [Act.put, List.setIfInBounds_toArray, List.set_cons_zero, List.set_cons_succ, i64_w, i32_w]
        rfl
      refine pure_ (i := 4) (N := some 24) (v := ?_) (a' := ?_) #[true, true, true, true, true, false, false, false] rfl rfl (any_of HT_.out (by kernel_rfl)) (fun _ _ _ h => h) (Or.inl ⟨by rfl, ?_⟩) ?_ ?_
      rotate_left
      · intro w'
        go_simp
        with_reducible rfl
      rotate_left
      · simp only [Act.put, List.setIfInBounds_toArray, List.set_cons_zero, List.set_cons_succ, i64_w, i32_w]
        rfl
      refine one_ (i := 5) (N := some 25) #[true, true, true, true, true, true, false, false] rfl rfl (one_of HT_.out (by kernel_rfl)) (by decide) (fun K hK => ?_)
      refine goes_ Try.func44 (by kernel_rfl) rfl #[.int .i64 65535, .int .i64 (wrap64 (t191 + t205))] (by rfl) rfl rfl (by (try simp only [List.map_toArray, List.map_cons, List.map_nil]); first | done | rfl | (simp only [List.length_drop, List.length_take]; rfl)) ?_
      with_reducible refine (spec_l1Min.calls 65535 (wrap64 (t191 + t205)) t208 _ A26.out).mono ?_
      rintro e w' ⟨rfl, ⟨nd, rfl⟩⟩
      refine ⟨_, rfl, ?_⟩
      refine hK.out _ _ ⟨(blk_cell BK201.out 0).trans rfl, (blk_cell BK201.out 1).trans rfl, (blk_cell BK201.out 2).trans rfl⟩ (fun hHeld => ?_)
      clear hK K
      refine norm_ (a' := ?_) ?_ ?_
      rotate_left
      · show Act.put _ (some 25) _ = _
        simp only [Act.put, List.setIfInBounds_toArray, List.set_cons_zero, List.set_cons_succ, i64_w, i32_w]
        rfl
      refine pure_ (i := 6) (N := some 26) (v := ?_) (a' := ?_) #[true, true, true, true, true, true, true, false] rfl rfl (any_of HT_.out (by kernel_rfl)) (fun _ _ _ h => h) (Or.inl ⟨by rfl, ?_⟩) ?_ ?_
      rotate_left
      · intro w'
        go_simp
        with_reducible rfl
      rotate_left
      · simp only [Act.put, List.setIfInBounds_toArray, List.set_cons_zero, List.set_cons_succ, i64_w, i32_w]
        rfl
      refine last_ (i := 7) (N := none) #[true, true, true, true, true, true, true, true] rfl rfl (one_of HT_.out (by kernel_rfl)) (by decide) (fun K hK => ?_)
      have hs39 : w38.cell? ⟨gb201, 1, none⟩ = some (.int .i64 t191) := (blk_cell BK201.out 1).trans rfl
      have hfs39 := blk_frozen BK201.out 1
      have hns39_0 := NB184_201.out
      have hns39_1 := NB185_201.out
      have hns39_2 := NB195_201.out
      have hms39_0 := NB201_184.out
      have hms39_1 := NB201_185.out
      have hms39_2 := NB201_195.out
      refine skip_ (w1 := ?_) (by rfl) rfl ?_ ?_
      rotate_left
      · go_simp
        rfl
      refine hK.out _ _ ?_
      clear hK K
      refine done_ (done_of HT_.out (by kernel_rfl)) ?_
      try go_wp2
      go_meet
      case rel => exact ⟨_, (t206), (t207), (t190), (t208), (t192), H', ⟨by first | omega | exact Nat.le_refl _⟩, ⟨by (with_reducible repeat (first | refine blk_drewN ?_ _ | refine blk_drew ?_ | refine blk_alloc ?_ _)); refine blk_far ?_ NB184_201.out _; (with_reducible repeat (first | refine blk_drewN ?_ _ | refine blk_drew ?_ | refine blk_alloc ?_ _)); exact BK184.out⟩, ⟨by (with_reducible repeat (first | refine blk_drewN ?_ _ | refine blk_drew ?_ | refine blk_alloc ?_ _)); refine blk_far ?_ NB185_201.out _; (with_reducible repeat (first | refine blk_drewN ?_ _ | refine blk_drew ?_ | refine blk_alloc ?_ _)); exact BK185.out⟩, ⟨by (with_reducible repeat (first | refine blk_drewN ?_ _ | refine blk_drew ?_ | refine blk_alloc ?_ _)); refine blk_far ?_ NB195_201.out _; (with_reducible repeat (first | refine blk_drewN ?_ _ | refine blk_drew ?_ | refine blk_alloc ?_ _)); exact BK195.out⟩, ⟨by (with_reducible repeat (first | refine blk_drewN ?_ _ | refine blk_drew ?_ | refine blk_alloc ?_ _)); refine blk_put (cs := #[.int .i64 t190, .int .i64 t191, .int .i64 t192]) ?_ 1 _ rfl; (with_reducible repeat (first | refine blk_drewN ?_ _ | refine blk_drew ?_ | refine blk_alloc ?_ _)); exact BK201.out⟩, ⟨by repeat (first | (with_reducible first | exact HI189.out | apply IsS80.alloc | apply IsS80.drewN | apply IsS80.drew | apply IsS80.set_1 | apply IsS80.set_2 | refine IsS80.far ?_ NB189_184.out _ | refine IsS80.far ?_ NB189_185.out _ | refine IsS80.far ?_ NB189_195.out _ | refine IsS80.far ?_ NB189_201.out _) | exact HI189.out)⟩, ⟨by repeat (first | (with_reducible first | exact HB.out | apply below_alloc | apply pw_below_drewN | apply below_drew1 | refine below_set ?_ (IsS80.ge HI189.out) | refine below_set ?_ GE184.out | refine below_set ?_ GE185.out | refine below_set ?_ GE195.out | refine below_set ?_ GE201.out) | exact HB.out)⟩⟩
    · replace c24 := Bool.eq_false_iff.mpr c24
      subst c24
      have H1 : (spec_DrawKeyMask.j0 k t186 t203 t204 t190 t191 t192 t196 t197 t198) = some (r1, r2, r3, r4, r5, r6, r7, r8) := by rw [if_neg (show ¬ (false = true) by decide)] at H; exact H
      clear H
      have H := H1
      clear H1
      have H' := Aside0.mk H
      clear H
      go_wp2
      go_meet
      case rel => exact ⟨_, (t203), (t204), (t196), (t197), (t198), H', ⟨by first | omega | exact Nat.le_refl _⟩, ⟨by (with_reducible repeat (first | refine blk_drewN ?_ _ | refine blk_drew ?_ | refine blk_alloc ?_ _)); exact BK184.out⟩, ⟨by (with_reducible repeat (first | refine blk_drewN ?_ _ | refine blk_drew ?_ | refine blk_alloc ?_ _)); exact BK185.out⟩, ⟨by (with_reducible repeat (first | refine blk_drewN ?_ _ | refine blk_drew ?_ | refine blk_alloc ?_ _)); exact BK195.out⟩, ⟨by (with_reducible repeat (first | refine blk_drewN ?_ _ | refine blk_drew ?_ | refine blk_alloc ?_ _)); exact BK201.out⟩, ⟨by repeat (first | (with_reducible first | exact HI189.out | apply IsS80.alloc | apply IsS80.drewN | apply IsS80.drew | apply IsS80.set_1 | apply IsS80.set_2 | refine IsS80.far ?_ NB189_184.out _ | refine IsS80.far ?_ NB189_185.out _ | refine IsS80.far ?_ NB189_195.out _ | refine IsS80.far ?_ NB189_201.out _) | exact HI189.out)⟩, ⟨by repeat (first | (with_reducible first | exact HB.out | apply below_alloc | apply pw_below_drewN | apply below_drew1 | refine below_set ?_ (IsS80.ge HI189.out) | refine below_set ?_ GE184.out | refine below_set ?_ GE185.out | refine below_set ?_ GE195.out | refine below_set ?_ GE201.out) | exact HB.out)⟩⟩
  case rest =>
    clear HC6
    try clear c1
    try clear c2
    try clear p2
    try clear c3
    try clear c4
    try clear p6
    try clear c12
    try clear c13
    try clear c14
    try clear c18
    try clear c19
    try clear c20
    try clear c21
    try clear c24
    try clear c27
    try clear c28
    try clear c29
    try clear c30
    try clear c32
    try clear c33
    try clear c34
    try clear hcz15_0
    try clear hcz15_1
    try clear hcz15_2
    try clear hcz22_0
    try clear hcz22_1
    try clear hcz22_2
    try clear hcz31_0
    try clear hcz31_1
    try clear hcz31_2
    try clear hcz35_0
    try clear hcz35_1
    try clear hcz35_2
    try clear hfz15_0
    try clear hfz15_1
    try clear hfz15_2
    try clear hfz22_0
    try clear hfz22_1
    try clear hfz22_2
    try clear hfz31_0
    try clear hfz31_1
    try clear hfz31_2
    try clear hfz35_0
    try clear hfz35_1
    try clear hfz35_2
    obtain ⟨kq, x190001_5, x190002_5, x202000_5, x202001_5, x202002_5, HA, HJ5, BK184, BK185, BK195, BK201, HI189, HB⟩ := hcut
    cases kq with
    | zero => exact absurd HA.out (by simp [spec_DrawKeyMask.j0])
    | succ kj5 =>
      have H := HA.out
      clear HA
      simp only [spec_DrawKeyMask.j0] at H
      replace H := Option.bind_eq_some_iff.mp H
      obtain ⟨⟨t209, t210, t211⟩, A400, H⟩ := H
      replace H : ((spec_l1Below.f t186 t210 t211 2000).bind fun bt212 => ((spec_l1Once.f t186 bt212.2.1 bt212.2.2 16).bind fun bt215 => (if bt215.1 = true then ((some (([(-1), wrap64 ((wrap64 (t209 + 1)) + bt212.1), 0] : List Int) : List Int)).bind fun y218 => ((spec_l1Below.f t186 bt215.2.1 bt215.2.2 3).bind fun bt221 => (if 0 ≤ bt221.1 then (if bt221.1 < (y218.length : Int) then ((some (([wrap64 ((wrap64 (t209 + 1)) + bt212.1), 65535, 65536] : List Int) : List Int)).bind fun y225 => ((spec_l1Below.f t186 bt221.2.1 bt221.2.2 3).bind fun bt228 => (if 0 ≤ bt228.1 then (if bt228.1 < (y225.length : Int) then (some (t190, t191, t192, x202000_5, x202001_5, x202002_5, rd y218 bt221.1, rd y225 bt228.1)) else (none)) else (none)))) else (none)) else (none)))) else (some (t190, t191, t192, x202000_5, x202001_5, x202002_5, t209, wrap64 ((wrap64 (t209 + 1)) + bt212.1)))))) = some (r1, r2, r3, r4, r5, r6, r7, r8) := H
      have A40 := Aside0.mk A400
      clear A400
      replace H := Option.bind_eq_some_iff.mp H
      obtain ⟨⟨t212, t213, t214⟩, A410, H⟩ := H
      replace H : ((spec_l1Once.f t186 t213 t214 16).bind fun bt215 => (if bt215.1 = true then ((some (([(-1), wrap64 ((wrap64 (t209 + 1)) + t212), 0] : List Int) : List Int)).bind fun y218 => ((spec_l1Below.f t186 bt215.2.1 bt215.2.2 3).bind fun bt221 => (if 0 ≤ bt221.1 then (if bt221.1 < (y218.length : Int) then ((some (([wrap64 ((wrap64 (t209 + 1)) + t212), 65535, 65536] : List Int) : List Int)).bind fun y225 => ((spec_l1Below.f t186 bt221.2.1 bt221.2.2 3).bind fun bt228 => (if 0 ≤ bt228.1 then (if bt228.1 < (y225.length : Int) then (some (t190, t191, t192, x202000_5, x202001_5, x202002_5, rd y218 bt221.1, rd y225 bt228.1)) else (none)) else (none)))) else (none)) else (none)))) else (some (t190, t191, t192, x202000_5, x202001_5, x202002_5, t209, wrap64 ((wrap64 (t209 + 1)) + t212))))) = some (r1, r2, r3, r4, r5, r6, r7, r8) := H
      have A41 := Aside0.mk A410
      clear A410
      replace H := Option.bind_eq_some_iff.mp H
      obtain ⟨⟨t215, t216, t217⟩, A420, H⟩ := H
      replace H : (if t215 = true then ((some (([(-1), wrap64 ((wrap64 (t209 + 1)) + t212), 0] : List Int) : List Int)).bind fun y218 => ((spec_l1Below.f t186 t216 t217 3).bind fun bt221 => (if 0 ≤ bt221.1 then (if bt221.1 < (y218.length : Int) then ((some (([wrap64 ((wrap64 (t209 + 1)) + t212), 65535, 65536] : List Int) : List Int)).bind fun y225 => ((spec_l1Below.f t186 bt221.2.1 bt221.2.2 3).bind fun bt228 => (if 0 ≤ bt228.1 then (if bt228.1 < (y225.length : Int) then (some (t190, t191, t192, x202000_5, x202001_5, x202002_5, rd y218 bt221.1, rd y225 bt228.1)) else (none)) else (none)))) else (none)) else (none)))) else (some (t190, t191, t192, x202000_5, x202001_5, x202002_5, t209, wrap64 ((wrap64 (t209 + 1)) + t212)))) = some (r1, r2, r3, r4, r5, r6, r7, r8) := H
      have A42 := Aside0.mk A420
      clear A420
      by_cases c43 : t215 = true
      · subst c43
        have H1 : ((some (([(-1), wrap64 ((wrap64 (t209 + 1)) + t212), 0] : List Int) : List Int)).bind fun y218 => ((spec_l1Below.f t186 t216 t217 3).bind fun bt221 => (if 0 ≤ bt221.1 then (if bt221.1 < (y218.length : Int) then ((some (([wrap64 ((wrap64 (t209 + 1)) + t212), 65535, 65536] : List Int) : List Int)).bind fun y225 => ((spec_l1Below.f t186 bt221.2.1 bt221.2.2 3).bind fun bt228 => (if 0 ≤ bt228.1 then (if bt228.1 < (y225.length : Int) then (some (t190, t191, t192, x202000_5, x202001_5, x202002_5, rd y218 bt221.1, rd y225 bt228.1)) else (none)) else (none)))) else (none)) else (none)))) = some (r1, r2, r3, r4, r5, r6, r7, r8) := by rw [if_pos rfl] at H; exact H
        clear H
        have H := H1
        clear H1
        obtain ⟨y218, hy218⟩ : ∃ y_ : List Int, y_ = (([(-1), wrap64 ((wrap64 (t209 + 1)) + t212), 0] : List Int)) := ⟨_, rfl⟩
        replace H : ((spec_l1Below.f t186 t216 t217 3).bind fun bt221 => (if 0 ≤ bt221.1 then (if bt221.1 < (y218.length : Int) then ((some (([wrap64 ((wrap64 (t209 + 1)) + t212), 65535, 65536] : List Int) : List Int)).bind fun y225 => ((spec_l1Below.f t186 bt221.2.1 bt221.2.2 3).bind fun bt228 => (if 0 ≤ bt228.1 then (if bt228.1 < (y225.length : Int) then (some (t190, t191, t192, x202000_5, x202001_5, x202002_5, rd y218 bt221.1, rd y225 bt228.1)) else (none)) else (none)))) else (none)) else (none))) = some (r1, r2, r3, r4, r5, r6, r7, r8) := by first | (rw [hy218]; with_reducible exact H) | (have H2_ := (Option.bind_some _ _).symm.trans H; rw [hy218]; with_reducible exact H2_) | (have H2_ := (Option.bind_some _ _).symm.trans H; with_reducible exact H2_) | with_reducible exact H | (rw [hy218]; exact H) | exact H
        have Ny218 := Aside0.mk hy218
        clear hy218
        replace H := Option.bind_eq_some_iff.mp H
        obtain ⟨⟨t221, t222, t223⟩, A440, H⟩ := H
        replace H : (if 0 ≤ t221 then (if t221 < (y218.length : Int) then ((some (([wrap64 ((wrap64 (t209 + 1)) + t212), 65535, 65536] : List Int) : List Int)).bind fun y225 => ((spec_l1Below.f t186 t222 t223 3).bind fun bt228 => (if 0 ≤ bt228.1 then (if bt228.1 < (y225.length : Int) then (some (t190, t191, t192, x202000_5, x202001_5, x202002_5, rd y218 t221, rd y225 bt228.1)) else (none)) else (none)))) else (none)) else (none)) = some (r1, r2, r3, r4, r5, r6, r7, r8) := H
        have A44 := Aside0.mk A440
        clear A440
        by_cases c45 : 0 ≤ t221
        · rw [if_pos c45] at H
          have c45b0 : decide (0 ≤ t221) = true := decide_eq_true c45
          clear c45
          by_cases c46 : t221 < (y218.length : Int)
          · rw [if_pos c46] at H
            have c46b0 : decide (t221 < (y218.length : Int)) = true := decide_eq_true c46
            clear c46
            obtain ⟨y225, hy225⟩ : ∃ y_ : List Int, y_ = (([wrap64 ((wrap64 (t209 + 1)) + t212), 65535, 65536] : List Int)) := ⟨_, rfl⟩
            replace H : ((spec_l1Below.f t186 t222 t223 3).bind fun bt228 => (if 0 ≤ bt228.1 then (if bt228.1 < (y225.length : Int) then (some (t190, t191, t192, x202000_5, x202001_5, x202002_5, rd y218 t221, rd y225 bt228.1)) else (none)) else (none))) = some (r1, r2, r3, r4, r5, r6, r7, r8) := by first | (rw [hy225]; with_reducible exact H) | (have H2_ := (Option.bind_some _ _).symm.trans H; rw [hy225]; with_reducible exact H2_) | (have H2_ := (Option.bind_some _ _).symm.trans H; with_reducible exact H2_) | with_reducible exact H | (rw [hy225]; exact H) | exact H
            have Ny225 := Aside0.mk hy225
            clear hy225
            replace H := Option.bind_eq_some_iff.mp H
            obtain ⟨⟨t228, t229, t230⟩, A470, H⟩ := H
            replace H : (if 0 ≤ t228 then (if t228 < (y225.length : Int) then (some (t190, t191, t192, x202000_5, x202001_5, x202002_5, rd y218 t221, rd y225 t228)) else (none)) else (none)) = some (r1, r2, r3, r4, r5, r6, r7, r8) := H
            have A47 := Aside0.mk A470
            clear A470
            by_cases c48 : 0 ≤ t228
            · rw [if_pos c48] at H
              have c48b0 : decide (0 ≤ t228) = true := decide_eq_true c48
              clear c48
              by_cases c49 : t228 < (y225.length : Int)
              · rw [if_pos c49] at H
                have c49b0 : decide (t228 < (y225.length : Int)) = true := decide_eq_true c49
                clear c49
                simp only [Option.some.injEq, Prod.mk.injEq] at H
                obtain ⟨rfl, rfl, rfl, rfl, rfl, rfl, rfl, rfl⟩ := H
                try go_wp2_with (first | ((with_reducible refine gate_callee (f := 45) rfl ?_); refine goesL_ (some 28) rfl rfl Try.func45 (by kernel_rfl) rfl #[.pointer (some ⟨g189, 0, none⟩), .int .i64 1000] rfl (by (try simp only [List.map_toArray, List.map_cons, List.map_nil]); first | done | rfl | (simp only [List.length_drop, List.length_take]; rfl)) ?_; (with_reducible refine (spec_l1Below.calls g189 t186 x190001_5 x190002_5 1000 t209 t210 t211 w _ ?side1 ?side2 A40.out).mono ?_); (case side1 => repeat (first | (with_reducible first | exact HI189.out | apply IsS80.alloc | apply IsS80.drewN | apply IsS80.drew | apply IsS80.set_1 | apply IsS80.set_2 | refine IsS80.far ?_ NB189_184.out _ | refine IsS80.far ?_ NB189_185.out _ | refine IsS80.far ?_ NB189_195.out _ | refine IsS80.far ?_ NB189_201.out _) | exact HI189.out)); (case side2 => repeat (first | (with_reducible first | exact HB.out | apply below_alloc | apply pw_below_drewN | apply below_drew1 | refine below_set ?_ (IsS80.ge HI189.out) | refine below_set ?_ GE184.out | refine below_set ?_ GE185.out | refine below_set ?_ GE195.out | refine below_set ?_ GE201.out) | exact HB.out)); rintro e w50 ⟨rfl, hi, hb, hk⟩; refine ⟨_, rfl, ?_⟩; have n0_ := Aside0.mk (KeepBut.blk hk (g' := gb184) (o := .cells #[.int .i64 0, .int .i64 0, .int .i64 0] 25 (0, 0)) (by (with_reducible repeat (first | refine blk_drewN ?_ _ | refine blk_drew ?_ | refine blk_alloc ?_ _)); exact BK184.out) NB184_189.out (by simp)); have n1_ := Aside0.mk (KeepBut.blk hk (g' := gb185) (o := .cells #[.int .i64 0, .int .i64 0, .int .i64 0] 25 (0, 0)) (by (with_reducible repeat (first | refine blk_drewN ?_ _ | refine blk_drew ?_ | refine blk_alloc ?_ _)); exact BK185.out) NB185_189.out (by simp)); have n2_ := Aside0.mk (KeepBut.blk hk (g' := gb195) (o := .cells #[.int .i64 t190, .int .i64 t191, .int .i64 t192] 25 (0, 0)) (by (with_reducible repeat (first | refine blk_drewN ?_ _ | refine blk_drew ?_ | refine blk_alloc ?_ _)); exact BK195.out) NB195_189.out (by simp)); have n3_ := Aside0.mk (KeepBut.blk hk (g' := gb201) (o := .cells #[.int .i64 x202000_5, .int .i64 x202001_5, .int .i64 x202002_5] 25 (0, 0)) (by (with_reducible repeat (first | refine blk_drewN ?_ _ | refine blk_drew ?_ | refine blk_alloc ?_ _)); exact BK201.out) NB201_189.out (by simp)); have n4_ := Aside0.mk (hb); have n5_ := Aside0.mk (hi); clear BK184; clear BK185; clear BK195; clear BK201; clear HB; clear HI189; have BK184 := n0_; have BK185 := n1_; have BK195 := n2_; have BK201 := n3_; have HB := n4_; have HI189 := n5_; clear n0_ n1_ n2_ n3_ n4_ n5_; (try clear hb); (try clear hb2); (try clear hk); (try clear hi)) | ((with_reducible refine gate_callee (f := 45) rfl ?_); refine goesL_ (some 32) rfl rfl Try.func45 (by kernel_rfl) rfl #[.pointer (some ⟨g189, 0, none⟩), .int .i64 2000] rfl (by (try simp only [List.map_toArray, List.map_cons, List.map_nil]); first | done | rfl | (simp only [List.length_drop, List.length_take]; rfl)) ?_; (with_reducible refine (spec_l1Below.calls g189 t186 t210 t211 2000 t212 t213 t214 w _ ?side1 ?side2 A41.out).mono ?_); (case side1 => repeat (first | (with_reducible first | exact HI189.out | apply IsS80.alloc | apply IsS80.drewN | apply IsS80.drew | apply IsS80.set_1 | apply IsS80.set_2 | refine IsS80.far ?_ NB189_184.out _ | refine IsS80.far ?_ NB189_185.out _ | refine IsS80.far ?_ NB189_195.out _ | refine IsS80.far ?_ NB189_201.out _) | exact HI189.out)); (case side2 => repeat (first | (with_reducible first | exact HB.out | apply below_alloc | apply pw_below_drewN | apply below_drew1 | refine below_set ?_ (IsS80.ge HI189.out) | refine below_set ?_ GE184.out | refine below_set ?_ GE185.out | refine below_set ?_ GE195.out | refine below_set ?_ GE201.out) | exact HB.out)); rintro e w51 ⟨rfl, hi, hb, hk⟩; refine ⟨_, rfl, ?_⟩; have n0_ := Aside0.mk (KeepBut.blk hk (g' := gb184) (o := .cells #[.int .i64 0, .int .i64 0, .int .i64 0] 25 (0, 0)) (by (with_reducible repeat (first | refine blk_drewN ?_ _ | refine blk_drew ?_ | refine blk_alloc ?_ _)); exact BK184.out) NB184_189.out (by simp)); have n1_ := Aside0.mk (KeepBut.blk hk (g' := gb185) (o := .cells #[.int .i64 0, .int .i64 0, .int .i64 0] 25 (0, 0)) (by (with_reducible repeat (first | refine blk_drewN ?_ _ | refine blk_drew ?_ | refine blk_alloc ?_ _)); exact BK185.out) NB185_189.out (by simp)); have n2_ := Aside0.mk (KeepBut.blk hk (g' := gb195) (o := .cells #[.int .i64 t190, .int .i64 t191, .int .i64 t192] 25 (0, 0)) (by (with_reducible repeat (first | refine blk_drewN ?_ _ | refine blk_drew ?_ | refine blk_alloc ?_ _)); exact BK195.out) NB195_189.out (by simp)); have n3_ := Aside0.mk (KeepBut.blk hk (g' := gb201) (o := .cells #[.int .i64 x202000_5, .int .i64 x202001_5, .int .i64 x202002_5] 25 (0, 0)) (by (with_reducible repeat (first | refine blk_drewN ?_ _ | refine blk_drew ?_ | refine blk_alloc ?_ _)); exact BK201.out) NB201_189.out (by simp)); have n4_ := Aside0.mk (hb); have n5_ := Aside0.mk (hi); clear BK184; clear BK185; clear BK195; clear BK201; clear HB; clear HI189; have BK184 := n0_; have BK185 := n1_; have BK195 := n2_; have BK201 := n3_; have HB := n4_; have HI189 := n5_; clear n0_ n1_ n2_ n3_ n4_ n5_; (try clear hb); (try clear hb2); (try clear hk); (try clear hi)) | ((with_reducible refine gate_callee (f := 43) rfl ?_); refine goesL_ (some 35) rfl rfl Try.func43 (by kernel_rfl) rfl #[.pointer (some ⟨g189, 0, none⟩), .int .i64 16] rfl (by (try simp only [List.map_toArray, List.map_cons, List.map_nil]); first | done | rfl | (simp only [List.length_drop, List.length_take]; rfl)) ?_; (with_reducible refine (spec_l1Once.calls g189 t186 t213 t214 16 true t216 t217 w _ ?side1 ?side2 A42.out).mono ?_); (case side1 => repeat (first | (with_reducible first | exact HI189.out | apply IsS80.alloc | apply IsS80.drewN | apply IsS80.drew | apply IsS80.set_1 | apply IsS80.set_2 | refine IsS80.far ?_ NB189_184.out _ | refine IsS80.far ?_ NB189_185.out _ | refine IsS80.far ?_ NB189_195.out _ | refine IsS80.far ?_ NB189_201.out _) | exact HI189.out)); (case side2 => repeat (first | (with_reducible first | exact HB.out | apply below_alloc | apply pw_below_drewN | apply below_drew1 | refine below_set ?_ (IsS80.ge HI189.out) | refine below_set ?_ GE184.out | refine below_set ?_ GE185.out | refine below_set ?_ GE195.out | refine below_set ?_ GE201.out) | exact HB.out)); rintro e w52 ⟨rfl, hi, hb, hk⟩; refine ⟨_, rfl, ?_⟩; have n0_ := Aside0.mk (KeepBut.blk hk (g' := gb184) (o := .cells #[.int .i64 0, .int .i64 0, .int .i64 0] 25 (0, 0)) (by (with_reducible repeat (first | refine blk_drewN ?_ _ | refine blk_drew ?_ | refine blk_alloc ?_ _)); exact BK184.out) NB184_189.out (by simp)); have n1_ := Aside0.mk (KeepBut.blk hk (g' := gb185) (o := .cells #[.int .i64 0, .int .i64 0, .int .i64 0] 25 (0, 0)) (by (with_reducible repeat (first | refine blk_drewN ?_ _ | refine blk_drew ?_ | refine blk_alloc ?_ _)); exact BK185.out) NB185_189.out (by simp)); have n2_ := Aside0.mk (KeepBut.blk hk (g' := gb195) (o := .cells #[.int .i64 t190, .int .i64 t191, .int .i64 t192] 25 (0, 0)) (by (with_reducible repeat (first | refine blk_drewN ?_ _ | refine blk_drew ?_ | refine blk_alloc ?_ _)); exact BK195.out) NB195_189.out (by simp)); have n3_ := Aside0.mk (KeepBut.blk hk (g' := gb201) (o := .cells #[.int .i64 x202000_5, .int .i64 x202001_5, .int .i64 x202002_5] 25 (0, 0)) (by (with_reducible repeat (first | refine blk_drewN ?_ _ | refine blk_drew ?_ | refine blk_alloc ?_ _)); exact BK201.out) NB201_189.out (by simp)); have n4_ := Aside0.mk (hb); have n5_ := Aside0.mk (hi); clear BK184; clear BK185; clear BK195; clear BK201; clear HB; clear HI189; have BK184 := n0_; have BK185 := n1_; have BK195 := n2_; have BK201 := n3_; have HB := n4_; have HI189 := n5_; clear n0_ n1_ n2_ n3_ n4_ n5_; (try clear hb); (try clear hb2); (try clear hk); (try clear hi)) | ((with_reducible refine gate_dst (N := 37) rfl ?_); refine Kd.R_lit (Kd.int .i64) _ 2 ?hg (N := 37) ?hd (xs := ([(-1), wrap64 ((wrap64 (t209 + 1)) + t212), 0] : List Int)) (inner := [.int .i64 (-1), .int .i64 (wrap64 ((wrap64 (t209 + 1)) + t212)), .int .i64 0]) (ok := fun _ => True) (okp := fun _ => True) ?hr ?hp (fun _ hk => hk) trivial (Below.refl _ _) (Nat.le_refl _) (by simp) ?_; (case hd => rfl); (case hg => rfl); (case hr => first | (go_simp; done) | (go_simp; rfl)); (case hp => exact (Reps.one (show Kd.M (Kd.int .i64) _ _ _ (-1) [.int .i64 (-1)] from rfl) (Reps.one (show Kd.M (Kd.int .i64) _ _ _ (wrap64 ((wrap64 (t209 + 1)) + t212)) [.int .i64 (wrap64 ((wrap64 (t209 + 1)) + t212))] from rfl) (Reps.one (show Kd.M (Kd.int .i64) _ _ _ 0 [.int .i64 0] from rfl) (Reps.none _ _))))); intro v219 w53 ho54 hb hg_ hnew_; clear hg_ hnew_; (first | rw [← Ny218.out] at ho54 | (simp only [Int.reduceToNat] at ho54; rw [← Ny218.out] at ho54)); have n0_ := Aside0.mk (Kd.R_lower ho54 (below_size (by repeat (first | (with_reducible first | exact HB.out | apply below_alloc | apply pw_below_drewN | apply below_drew1 | refine below_set ?_ (IsS80.ge HI189.out) | refine below_set ?_ GE184.out | refine below_set ?_ GE185.out | refine below_set ?_ GE195.out | refine below_set ?_ GE201.out) | exact HB.out)))); have n1_ := Aside0.mk (blk_below (g := gb184) (o := .cells #[.int .i64 0, .int .i64 0, .int .i64 0] 25 (0, 0)) (by (with_reducible repeat (first | refine blk_drewN ?_ _ | refine blk_drew ?_ | refine blk_alloc ?_ _)); exact BK184.out) hb); have n2_ := Aside0.mk (blk_below (g := gb185) (o := .cells #[.int .i64 0, .int .i64 0, .int .i64 0] 25 (0, 0)) (by (with_reducible repeat (first | refine blk_drewN ?_ _ | refine blk_drew ?_ | refine blk_alloc ?_ _)); exact BK185.out) hb); have n3_ := Aside0.mk (blk_below (g := gb195) (o := .cells #[.int .i64 t190, .int .i64 t191, .int .i64 t192] 25 (0, 0)) (by (with_reducible repeat (first | refine blk_drewN ?_ _ | refine blk_drew ?_ | refine blk_alloc ?_ _)); exact BK195.out) hb); have n4_ := Aside0.mk (blk_below (g := gb201) (o := .cells #[.int .i64 x202000_5, .int .i64 x202001_5, .int .i64 x202002_5] 25 (0, 0)) (by (with_reducible repeat (first | refine blk_drewN ?_ _ | refine blk_drew ?_ | refine blk_alloc ?_ _)); exact BK201.out) hb); have n5_ := Aside0.mk (IsS80.below (by repeat (first | (with_reducible first | exact HI189.out | apply IsS80.alloc | apply IsS80.drewN | apply IsS80.drew | apply IsS80.set_1 | apply IsS80.set_2 | refine IsS80.far ?_ NB189_184.out _ | refine IsS80.far ?_ NB189_185.out _ | refine IsS80.far ?_ NB189_195.out _ | refine IsS80.far ?_ NB189_201.out _) | exact HI189.out)) hb); have n6_ := Aside0.mk (below_step (by repeat (first | (with_reducible first | exact HB.out | apply below_alloc | apply pw_below_drewN | apply below_drew1 | refine below_set ?_ (IsS80.ge HI189.out) | refine below_set ?_ GE184.out | refine below_set ?_ GE185.out | refine below_set ?_ GE195.out | refine below_set ?_ GE201.out) | exact HB.out)) hb); clear BK184; clear BK185; clear BK195; clear BK201; clear HI189; clear HB; have HO220 := n0_; have BK184 := n1_; have BK185 := n2_; have BK195 := n3_; have BK201 := n4_; have HI189 := n5_; have HB := n6_; clear n0_ n1_ n2_ n3_ n4_ n5_ n6_; clear hb ho54) | ((with_reducible refine gate_callee (f := 45) rfl ?_); refine goesL_ (some 39) rfl rfl Try.func45 (by kernel_rfl) rfl #[.pointer (some ⟨g189, 0, none⟩), .int .i64 3] rfl (by (try simp only [List.map_toArray, List.map_cons, List.map_nil]); first | done | rfl | (simp only [List.length_drop, List.length_take]; rfl)) ?_; (with_reducible refine (spec_l1Below.calls g189 t186 t216 t217 3 t221 t222 t223 w _ ?side1 ?side2 A44.out).mono ?_); (case side1 => repeat (first | (with_reducible first | exact HI189.out | apply IsS80.alloc | apply IsS80.drewN | apply IsS80.drew | apply IsS80.set_1 | apply IsS80.set_2 | refine IsS80.far ?_ NB189_184.out _ | refine IsS80.far ?_ NB189_185.out _ | refine IsS80.far ?_ NB189_195.out _ | refine IsS80.far ?_ NB189_201.out _) | exact HI189.out)); (case side2 => repeat (first | (with_reducible first | exact HB.out | apply below_alloc | apply pw_below_drewN | apply below_drew1 | refine below_set ?_ (IsS80.ge HI189.out) | refine below_set ?_ GE184.out | refine below_set ?_ GE185.out | refine below_set ?_ GE195.out | refine below_set ?_ GE201.out) | exact HB.out)); rintro e w55 ⟨rfl, hi, hb, hk⟩; refine ⟨_, rfl, ?_⟩; have n0_ := Aside0.mk (KeepBut.blk hk (g' := gb184) (o := .cells #[.int .i64 0, .int .i64 0, .int .i64 0] 25 (0, 0)) (by (with_reducible repeat (first | refine blk_drewN ?_ _ | refine blk_drew ?_ | refine blk_alloc ?_ _)); exact BK184.out) NB184_189.out (by simp)); have n1_ := Aside0.mk (KeepBut.blk hk (g' := gb185) (o := .cells #[.int .i64 0, .int .i64 0, .int .i64 0] 25 (0, 0)) (by (with_reducible repeat (first | refine blk_drewN ?_ _ | refine blk_drew ?_ | refine blk_alloc ?_ _)); exact BK185.out) NB185_189.out (by simp)); have n2_ := Aside0.mk (KeepBut.blk hk (g' := gb195) (o := .cells #[.int .i64 t190, .int .i64 t191, .int .i64 t192] 25 (0, 0)) (by (with_reducible repeat (first | refine blk_drewN ?_ _ | refine blk_drew ?_ | refine blk_alloc ?_ _)); exact BK195.out) NB195_189.out (by simp)); have n3_ := Aside0.mk (KeepBut.blk hk (g' := gb201) (o := .cells #[.int .i64 x202000_5, .int .i64 x202001_5, .int .i64 x202002_5] 25 (0, 0)) (by (with_reducible repeat (first | refine blk_drewN ?_ _ | refine blk_drew ?_ | refine blk_alloc ?_ _)); exact BK201.out) NB201_189.out (by simp)); have n4_ := Aside0.mk (Kd.R_mono (Kd.R_keep (IsS80.apart (show IsS80 w _ g189 t186 t216 t217 from by repeat (first | (with_reducible first | exact HI189.out | apply IsS80.alloc | apply IsS80.drewN | apply IsS80.drew | apply IsS80.set_1 | apply IsS80.set_2 | refine IsS80.far ?_ NB189_184.out _ | refine IsS80.far ?_ NB189_185.out _ | refine IsS80.far ?_ NB189_195.out _ | refine IsS80.far ?_ NB189_201.out _) | exact HI189.out)) (by (with_reducible repeat (first | apply Kd.R_alloc | apply Kd.R_drewN | apply Kd.R_drew)); exact HO220.out) (by decide)) hk (fun _ h => h.2)) (fun _ h => h.1)); have n5_ := Aside0.mk (hb); have n6_ := Aside0.mk (hi); clear BK184; clear BK185; clear BK195; clear BK201; clear HO220; clear HB; clear HI189; have BK184 := n0_; have BK185 := n1_; have BK195 := n2_; have BK201 := n3_; have HO220 := n4_; have HB := n5_; have HI189 := n6_; clear n0_ n1_ n2_ n3_ n4_ n5_ n6_; (try clear hb); (try clear hb2); (try clear hk); (try clear hi); obtain ⟨Ao56, co56, eo56⟩ := Kd.R_slice HO220.out; subst eo56; have p224 : 0 ≤ (t221 : Int) := of_decide_eq_true (by first | (with_reducible assumption) | assumption); have q224 : t221 < (y218.length : Int) := of_decide_eq_true (by first | (with_reducible assumption) | assumption); obtain ⟨ad224, e224, hx224_0⟩ := Kd.at_int (Kd.R_reads' HO220.out).2.2 t221 p224 q224; cases e224; replace p224 := eq_true p224; replace q224 := eq_true q224) | ((with_reducible refine gate_dst (N := 43) rfl ?_); refine Kd.R_lit (Kd.int .i64) _ 2 ?hg (N := 43) ?hd (xs := ([wrap64 ((wrap64 (t209 + 1)) + t212), 65535, 65536] : List Int)) (inner := [.int .i64 (wrap64 ((wrap64 (t209 + 1)) + t212)), .int .i64 65535, .int .i64 65536]) (ok := fun _ => True) (okp := fun _ => True) ?hr ?hp (fun _ hk => hk) trivial (Below.refl _ _) (Nat.le_refl _) (by simp) ?_; (case hd => rfl); (case hg => rfl); (case hr => first | (go_simp; done) | (go_simp; rfl)); (case hp => exact (Reps.one (show Kd.M (Kd.int .i64) _ _ _ (wrap64 ((wrap64 (t209 + 1)) + t212)) [.int .i64 (wrap64 ((wrap64 (t209 + 1)) + t212))] from rfl) (Reps.one (show Kd.M (Kd.int .i64) _ _ _ 65535 [.int .i64 65535] from rfl) (Reps.one (show Kd.M (Kd.int .i64) _ _ _ 65536 [.int .i64 65536] from rfl) (Reps.none _ _))))); intro v226 w57 ho58 hb hg_ hnew_; clear hg_ hnew_; (first | rw [← Ny225.out] at ho58 | (simp only [Int.reduceToNat] at ho58; rw [← Ny225.out] at ho58)); have n0_ := Aside0.mk (Kd.R_elder' (by (with_reducible repeat (first | apply Kd.R_alloc | apply Kd.R_drewN | apply Kd.R_drew)); exact HO220.out) (Kd.R_base ho58) hb); have n1_ := Aside0.mk (Kd.R_lower (Kd.R_new' ho58 (Kd.R_lt (by (with_reducible repeat (first | apply Kd.R_alloc | apply Kd.R_drewN | apply Kd.R_drew)); exact HO220.out))) (below_size (by repeat (first | (with_reducible first | exact HB.out | apply below_alloc | apply pw_below_drewN | apply below_drew1 | refine below_set ?_ (IsS80.ge HI189.out) | refine below_set ?_ GE184.out | refine below_set ?_ GE185.out | refine below_set ?_ GE195.out | refine below_set ?_ GE201.out) | exact HB.out)))); have n2_ := Aside0.mk (blk_below (g := gb184) (o := .cells #[.int .i64 0, .int .i64 0, .int .i64 0] 25 (0, 0)) (by (with_reducible repeat (first | refine blk_drewN ?_ _ | refine blk_drew ?_ | refine blk_alloc ?_ _)); exact BK184.out) hb); have n3_ := Aside0.mk (blk_below (g := gb185) (o := .cells #[.int .i64 0, .int .i64 0, .int .i64 0] 25 (0, 0)) (by (with_reducible repeat (first | refine blk_drewN ?_ _ | refine blk_drew ?_ | refine blk_alloc ?_ _)); exact BK185.out) hb); have n4_ := Aside0.mk (blk_below (g := gb195) (o := .cells #[.int .i64 t190, .int .i64 t191, .int .i64 t192] 25 (0, 0)) (by (with_reducible repeat (first | refine blk_drewN ?_ _ | refine blk_drew ?_ | refine blk_alloc ?_ _)); exact BK195.out) hb); have n5_ := Aside0.mk (blk_below (g := gb201) (o := .cells #[.int .i64 x202000_5, .int .i64 x202001_5, .int .i64 x202002_5] 25 (0, 0)) (by (with_reducible repeat (first | refine blk_drewN ?_ _ | refine blk_drew ?_ | refine blk_alloc ?_ _)); exact BK201.out) hb); have n6_ := Aside0.mk (IsS80.below (by repeat (first | (with_reducible first | exact HI189.out | apply IsS80.alloc | apply IsS80.drewN | apply IsS80.drew | apply IsS80.set_1 | apply IsS80.set_2 | refine IsS80.far ?_ NB189_184.out _ | refine IsS80.far ?_ NB189_185.out _ | refine IsS80.far ?_ NB189_195.out _ | refine IsS80.far ?_ NB189_201.out _) | exact HI189.out)) hb); have n7_ := Aside0.mk (below_step (by repeat (first | (with_reducible first | exact HB.out | apply below_alloc | apply pw_below_drewN | apply below_drew1 | refine below_set ?_ (IsS80.ge HI189.out) | refine below_set ?_ GE184.out | refine below_set ?_ GE185.out | refine below_set ?_ GE195.out | refine below_set ?_ GE201.out) | exact HB.out)) hb); clear HO220; clear BK184; clear BK185; clear BK195; clear BK201; clear HI189; clear HB; have HO220 := n0_; have HO227 := n1_; have BK184 := n2_; have BK185 := n3_; have BK195 := n4_; have BK201 := n5_; have HI189 := n6_; have HB := n7_; clear n0_ n1_ n2_ n3_ n4_ n5_ n6_ n7_; clear hb ho58) | ((with_reducible refine gate_callee (f := 45) rfl ?_); refine goesL_ (some 45) rfl rfl Try.func45 (by kernel_rfl) rfl #[.pointer (some ⟨g189, 0, none⟩), .int .i64 3] rfl (by (try simp only [List.map_toArray, List.map_cons, List.map_nil]); first | done | rfl | (simp only [List.length_drop, List.length_take]; rfl)) ?_; (with_reducible refine (spec_l1Below.calls g189 t186 t222 t223 3 t228 t229 t230 w _ ?side1 ?side2 A47.out).mono ?_); (case side1 => repeat (first | (with_reducible first | exact HI189.out | apply IsS80.alloc | apply IsS80.drewN | apply IsS80.drew | apply IsS80.set_1 | apply IsS80.set_2 | refine IsS80.far ?_ NB189_184.out _ | refine IsS80.far ?_ NB189_185.out _ | refine IsS80.far ?_ NB189_195.out _ | refine IsS80.far ?_ NB189_201.out _) | exact HI189.out)); (case side2 => repeat (first | (with_reducible first | exact HB.out | apply below_alloc | apply pw_below_drewN | apply below_drew1 | refine below_set ?_ (IsS80.ge HI189.out) | refine below_set ?_ GE184.out | refine below_set ?_ GE185.out | refine below_set ?_ GE195.out | refine below_set ?_ GE201.out) | exact HB.out)); rintro e w59 ⟨rfl, hi, hb, hk⟩; refine ⟨_, rfl, ?_⟩; have n0_ := Aside0.mk (KeepBut.blk hk (g' := gb184) (o := .cells #[.int .i64 0, .int .i64 0, .int .i64 0] 25 (0, 0)) (by (with_reducible repeat (first | refine blk_drewN ?_ _ | refine blk_drew ?_ | refine blk_alloc ?_ _)); exact BK184.out) NB184_189.out (by simp)); have n1_ := Aside0.mk (KeepBut.blk hk (g' := gb185) (o := .cells #[.int .i64 0, .int .i64 0, .int .i64 0] 25 (0, 0)) (by (with_reducible repeat (first | refine blk_drewN ?_ _ | refine blk_drew ?_ | refine blk_alloc ?_ _)); exact BK185.out) NB185_189.out (by simp)); have n2_ := Aside0.mk (KeepBut.blk hk (g' := gb195) (o := .cells #[.int .i64 t190, .int .i64 t191, .int .i64 t192] 25 (0, 0)) (by (with_reducible repeat (first | refine blk_drewN ?_ _ | refine blk_drew ?_ | refine blk_alloc ?_ _)); exact BK195.out) NB195_189.out (by simp)); have n3_ := Aside0.mk (KeepBut.blk hk (g' := gb201) (o := .cells #[.int .i64 x202000_5, .int .i64 x202001_5, .int .i64 x202002_5] 25 (0, 0)) (by (with_reducible repeat (first | refine blk_drewN ?_ _ | refine blk_drew ?_ | refine blk_alloc ?_ _)); exact BK201.out) NB201_189.out (by simp)); have n4_ := Aside0.mk (Kd.R_mono (Kd.R_keep (IsS80.apart (show IsS80 w _ g189 t186 t222 t223 from by repeat (first | (with_reducible first | exact HI189.out | apply IsS80.alloc | apply IsS80.drewN | apply IsS80.drew | apply IsS80.set_1 | apply IsS80.set_2 | refine IsS80.far ?_ NB189_184.out _ | refine IsS80.far ?_ NB189_185.out _ | refine IsS80.far ?_ NB189_195.out _ | refine IsS80.far ?_ NB189_201.out _) | exact HI189.out)) (by (with_reducible repeat (first | apply Kd.R_alloc | apply Kd.R_drewN | apply Kd.R_drew)); exact HO220.out) (by decide)) hk (fun _ h => h.2)) (fun _ h => h.1)); have n5_ := Aside0.mk (Kd.R_mono (Kd.R_keep (IsS80.apart (show IsS80 w _ g189 t186 t222 t223 from by repeat (first | (with_reducible first | exact HI189.out | apply IsS80.alloc | apply IsS80.drewN | apply IsS80.drew | apply IsS80.set_1 | apply IsS80.set_2 | refine IsS80.far ?_ NB189_184.out _ | refine IsS80.far ?_ NB189_185.out _ | refine IsS80.far ?_ NB189_195.out _ | refine IsS80.far ?_ NB189_201.out _) | exact HI189.out)) (by (with_reducible repeat (first | apply Kd.R_alloc | apply Kd.R_drewN | apply Kd.R_drew)); exact HO227.out) (by decide)) hk (fun _ h => h.2)) (fun _ h => h.1)); have n6_ := Aside0.mk (hb); have n7_ := Aside0.mk (hi); clear BK184; clear BK185; clear BK195; clear BK201; clear HO220; clear HO227; clear HB; clear HI189; have BK184 := n0_; have BK185 := n1_; have BK195 := n2_; have BK201 := n3_; have HO220 := n4_; have HO227 := n5_; have HB := n6_; have HI189 := n7_; clear n0_ n1_ n2_ n3_ n4_ n5_ n6_ n7_; (try clear hb); (try clear hb2); (try clear hk); (try clear hi); obtain ⟨Ao60, co60, eo60⟩ := Kd.R_slice HO227.out; subst eo60; have p231 : 0 ≤ (t228 : Int) := of_decide_eq_true (by first | (with_reducible assumption) | assumption); have q231 : t228 < (y225.length : Int) := of_decide_eq_true (by first | (with_reducible assumption) | assumption); obtain ⟨ad231, e231, hx231_0⟩ := Kd.at_int (Kd.R_reads' HO227.out).2.2 t228 p231 q231; cases e231; replace p231 := eq_true p231; replace q231 := eq_true q231))
                have n0_ := Aside0.mk (Kd.R_drew HO220.out)
                have n1_ := Aside0.mk (Kd.R_drew HO227.out)
                have n2_ := Aside0.mk (blk_drew BK184.out)
                have n3_ := Aside0.mk (blk_drew BK185.out)
                have n4_ := Aside0.mk (blk_drew BK195.out)
                have n5_ := Aside0.mk (blk_drew BK201.out)
                have n6_ := Aside0.mk (IsS80.drew HI189.out)
                have n7_ := Aside0.mk (below_drew1 HB.out)
                clear HO220
                clear HO227
                clear BK184
                clear BK185
                clear BK195
                clear BK201
                clear HI189
                clear HB
                have HO220 := n0_
                have HO227 := n1_
                have BK184 := n2_
                have BK185 := n3_
                have BK195 := n4_
                have BK201 := n5_
                have HI189 := n6_
                have HB := n7_
                clear n0_ n1_ n2_ n3_ n4_ n5_ n6_ n7_
                refine start_ (n := 8) (S := fun w' => w'.cell? ⟨gb195, 0, none⟩ = some (.int .i64 t190) ∧ w'.cell? ⟨gb195, 1, none⟩ = some (.int .i64 t191) ∧ w'.cell? ⟨gb195, 2, none⟩ = some (.int .i64 t192) ∧ w'.cell? ⟨gb201, 0, none⟩ = some (.int .i64 x202000_5) ∧ w'.cell? ⟨gb201, 1, none⟩ = some (.int .i64 x202001_5) ∧ w'.cell? ⟨gb201, 2, none⟩ = some (.int .i64 x202002_5)) (ds := []) #[false, false, false, false, false, false, false, false] (by kernel_rfl) rfl rfl ⟨(blk_cell BK195.out 0).trans rfl, (blk_cell BK195.out 1).trans rfl, (blk_cell BK195.out 2).trans rfl, (blk_cell BK201.out 0).trans rfl, (blk_cell BK201.out 1).trans rfl, (blk_cell BK201.out 2).trans rfl⟩ (fun hHeld => ?_); refine with_tabW spec_DrawKeyMask.tab12 spec_DrawKeyMask.bits12 (fun HT_ HW_ => ?_)
                generalize w59.drew = w61 at HO220 HO227 BK184 BK185 BK195 BK201 HI189 HB hHeld ⊢
                refine pure_ (i := 2) (N := some 50) (v := ?_) (a' := ?_) #[false, false, true, false, false, false, false, false] rfl rfl (any_of HT_.out (by kernel_rfl)) (fun _ _ _ h => h) (Or.inl ⟨by rfl, ?_⟩) ?_ ?_
                rotate_left
                · intro w'
                  go_simp
                  with_reducible rfl
                rotate_left
                · simp only [Act.put, List.setIfInBounds_toArray, List.set_cons_zero, List.set_cons_succ, i64_w, i32_w]
                  rfl
                refine pure_ (i := 3) (N := some 51) (v := ?_) (a' := ?_) #[false, false, true, true, false, false, false, false] rfl rfl (any_of HT_.out (by kernel_rfl)) (fun _ _ _ h => h) (Or.inl ⟨by rfl, ?_⟩) ?_ ?_
                rotate_left
                · intro w'
                  go_simp
                  with_reducible rfl
                rotate_left
                · simp only [Act.put, List.setIfInBounds_toArray, List.set_cons_zero, List.set_cons_succ, i64_w, i32_w]
                  rfl
                refine take_ (i := 0) (N := some 48) (v := ?_) (a' := ?_) #[true, false, true, true, false, false, false, false] rfl rfl (take_ofW HT_.out HW_.out (by kernel_rfl)) (fun _ _ _ h => h) (Or.inl ⟨by rfl, ?_⟩) hHeld ?_ ?_
                rotate_left
                · rintro w' ⟨s0, s1, s2, s3, s4, s5⟩
                  go_simp
                  with_reducible rfl
                rotate_left
                · simp only [Act.put, List.setIfInBounds_toArray, List.set_cons_zero, List.set_cons_succ, i64_w, i32_w]
                  rfl
                refine take_ (i := 1) (N := some 49) (v := ?_) (a' := ?_) #[true, true, true, true, false, false, false, false] rfl rfl (take_ofW HT_.out HW_.out (by kernel_rfl)) (fun _ _ _ h => h) (Or.inl ⟨by rfl, ?_⟩) hHeld ?_ ?_
                rotate_left
                · rintro w' ⟨s0, s1, s2, s3, s4, s5⟩
                  go_simp
                  with_reducible rfl
                rotate_left
                · simp only [Act.put, List.setIfInBounds_toArray, List.set_cons_zero, List.set_cons_succ, i64_w, i32_w]
                  rfl
                refine one_ (i := 4) (N := none) #[true, true, true, true, true, false, false, false] rfl rfl (one_of HT_.out (by kernel_rfl)) (by decide) (fun K hK => ?_)
                have hs62 : w61.cell? ⟨gb184, 0, none⟩ = some (.int .i64 0) := (blk_cell BK184.out 0).trans rfl
                have hfs62 := blk_frozen BK184.out 0
                have hns62_1 := NB185_184.out
                have hns62_2 := NB195_184.out
                have hns62_3 := NB201_184.out
                have hms62_1 := NB184_185.out
                have hms62_2 := NB184_195.out
                have hms62_3 := NB184_201.out
                have hs63 : w61.cell? ⟨gb184, 1, none⟩ = some (.int .i64 0) := (blk_cell BK184.out 1).trans rfl
                have hfs63 := blk_frozen BK184.out 1
                have hns63_1 := NB185_184.out
                have hns63_2 := NB195_184.out
                have hns63_3 := NB201_184.out
                have hms63_1 := NB184_185.out
                have hms63_2 := NB184_195.out
                have hms63_3 := NB184_201.out
                have hs64 : w61.cell? ⟨gb184, 2, none⟩ = some (.int .i64 0) := (blk_cell BK184.out 2).trans rfl
                have hfs64 := blk_frozen BK184.out 2
                have hns64_1 := NB185_184.out
                have hns64_2 := NB195_184.out
                have hns64_3 := NB201_184.out
                have hms64_1 := NB184_185.out
                have hms64_2 := NB184_195.out
                have hms64_3 := NB184_201.out
                refine skip_ (w1 := ?_) (by rfl) rfl ?_ ?_
                rotate_left
                · go_simp
                  rfl
                refine hK.out _ _ ⟨((cell_far (p := ⟨gb184, _, none⟩) NB195_184.out _).trans (((cell_far (p := ⟨gb184, _, none⟩) NB195_184.out _).trans (((cell_far (p := ⟨gb184, _, none⟩) NB195_184.out _).trans (hHeld.1)))))), ((cell_far (p := ⟨gb184, _, none⟩) NB195_184.out _).trans (((cell_far (p := ⟨gb184, _, none⟩) NB195_184.out _).trans (((cell_far (p := ⟨gb184, _, none⟩) NB195_184.out _).trans (hHeld.2.1)))))), ((cell_far (p := ⟨gb184, _, none⟩) NB195_184.out _).trans (((cell_far (p := ⟨gb184, _, none⟩) NB195_184.out _).trans (((cell_far (p := ⟨gb184, _, none⟩) NB195_184.out _).trans (hHeld.2.2.1)))))), ((cell_far (p := ⟨gb184, _, none⟩) NB201_184.out _).trans (((cell_far (p := ⟨gb184, _, none⟩) NB201_184.out _).trans (((cell_far (p := ⟨gb184, _, none⟩) NB201_184.out _).trans (hHeld.2.2.2.1)))))), ((cell_far (p := ⟨gb184, _, none⟩) NB201_184.out _).trans (((cell_far (p := ⟨gb184, _, none⟩) NB201_184.out _).trans (((cell_far (p := ⟨gb184, _, none⟩) NB201_184.out _).trans (hHeld.2.2.2.2.1)))))), ((cell_far (p := ⟨gb184, _, none⟩) NB201_184.out _).trans (((cell_far (p := ⟨gb184, _, none⟩) NB201_184.out _).trans (((cell_far (p := ⟨gb184, _, none⟩) NB201_184.out _).trans (hHeld.2.2.2.2.2))))))⟩ (fun hHeld => ?_)
                clear hK K
                refine one_ (i := 5) (N := none) #[true, true, true, true, true, true, false, false] rfl rfl (one_of HT_.out (by kernel_rfl)) (by decide) (fun K hK => ?_)
                have hs65 : w61.cell? ⟨gb185, 0, none⟩ = some (.int .i64 0) := (blk_cell BK185.out 0).trans rfl
                have hfs65 := blk_frozen BK185.out 0
                have hns65_0 := NB184_185.out
                have hns65_2 := NB195_185.out
                have hns65_3 := NB201_185.out
                have hms65_0 := NB185_184.out
                have hms65_2 := NB185_195.out
                have hms65_3 := NB185_201.out
                have hs66 : w61.cell? ⟨gb185, 1, none⟩ = some (.int .i64 0) := (blk_cell BK185.out 1).trans rfl
                have hfs66 := blk_frozen BK185.out 1
                have hns66_0 := NB184_185.out
                have hns66_2 := NB195_185.out
                have hns66_3 := NB201_185.out
                have hms66_0 := NB185_184.out
                have hms66_2 := NB185_195.out
                have hms66_3 := NB185_201.out
                have hs67 : w61.cell? ⟨gb185, 2, none⟩ = some (.int .i64 0) := (blk_cell BK185.out 2).trans rfl
                have hfs67 := blk_frozen BK185.out 2
                have hns67_0 := NB184_185.out
                have hns67_2 := NB195_185.out
                have hns67_3 := NB201_185.out
                have hms67_0 := NB185_184.out
                have hms67_2 := NB185_195.out
                have hms67_3 := NB185_201.out
                refine skip_ (w1 := ?_) (by rfl) rfl ?_ ?_
                rotate_left
                · go_simp
                  rfl
                refine hK.out _ _ ⟨((cell_far (p := ⟨gb185, _, none⟩) NB195_185.out _).trans (((cell_far (p := ⟨gb185, _, none⟩) NB195_185.out _).trans (((cell_far (p := ⟨gb185, _, none⟩) NB195_185.out _).trans (hHeld.1)))))), ((cell_far (p := ⟨gb185, _, none⟩) NB195_185.out _).trans (((cell_far (p := ⟨gb185, _, none⟩) NB195_185.out _).trans (((cell_far (p := ⟨gb185, _, none⟩) NB195_185.out _).trans (hHeld.2.1)))))), ((cell_far (p := ⟨gb185, _, none⟩) NB195_185.out _).trans (((cell_far (p := ⟨gb185, _, none⟩) NB195_185.out _).trans (((cell_far (p := ⟨gb185, _, none⟩) NB195_185.out _).trans (hHeld.2.2.1)))))), ((cell_far (p := ⟨gb185, _, none⟩) NB201_185.out _).trans (((cell_far (p := ⟨gb185, _, none⟩) NB201_185.out _).trans (((cell_far (p := ⟨gb185, _, none⟩) NB201_185.out _).trans (hHeld.2.2.2.1)))))), ((cell_far (p := ⟨gb185, _, none⟩) NB201_185.out _).trans (((cell_far (p := ⟨gb185, _, none⟩) NB201_185.out _).trans (((cell_far (p := ⟨gb185, _, none⟩) NB201_185.out _).trans (hHeld.2.2.2.2.1)))))), ((cell_far (p := ⟨gb185, _, none⟩) NB201_185.out _).trans (((cell_far (p := ⟨gb185, _, none⟩) NB201_185.out _).trans (((cell_far (p := ⟨gb185, _, none⟩) NB201_185.out _).trans (hHeld.2.2.2.2.2))))))⟩ (fun hHeld => ?_)
                clear hK K
                refine pure_ (i := 6) (N := some 4) (v := ?_) (a' := ?_) #[true, true, true, true, true, true, true, false] rfl rfl (any_of HT_.out (by kernel_rfl)) (fun _ _ _ h => h) (Or.inl ⟨by rfl, ?_⟩) ?_ ?_
                rotate_left
                · intro w'
                  go_simp
                  with_reducible rfl
                rotate_left
                · simp only [Act.put, List.setIfInBounds_toArray, List.set_cons_zero, List.set_cons_succ, i64_w, i32_w]
                  rfl
                refine pure_ (i := 7) (N := some 5) (v := ?_) (a' := ?_) #[true, true, true, true, true, true, true, true] rfl rfl (any_of HT_.out (by kernel_rfl)) (fun _ _ _ h => h) (Or.inl ⟨by rfl, ?_⟩) ?_ ?_
                rotate_left
                · intro w'
                  go_simp
                  with_reducible rfl
                rotate_left
                · simp only [Act.put, List.setIfInBounds_toArray, List.set_cons_zero, List.set_cons_succ, i64_w, i32_w]
                  rfl
                refine done_ (done_of HT_.out (by kernel_rfl)) ?_
                try go_wp2
                refine bodyPost_ret (results_list (rs := [.cell 2 25, .cell 3 25, .tmp 4, .tmp 5]) rfl (by simp) (.cell gb184 25 #[.int .i64 t190, .int .i64 t191, .int .i64 t192] (0, 0) _ rfl (by (with_reducible repeat (first | refine blk_drewN ?_ _ | refine blk_drew ?_ | refine blk_alloc ?_ _)); refine blk_far ?_ NB184_185.out _; (with_reducible repeat (first | refine blk_drewN ?_ _ | refine blk_drew ?_ | refine blk_alloc ?_ _)); refine blk_far ?_ NB184_185.out _; (with_reducible repeat (first | refine blk_drewN ?_ _ | refine blk_drew ?_ | refine blk_alloc ?_ _)); refine blk_far ?_ NB184_185.out _; (with_reducible repeat (first | refine blk_drewN ?_ _ | refine blk_drew ?_ | refine blk_alloc ?_ _)); refine blk_put (cs := #[.int .i64 t190, .int .i64 t191, .int .i64 0]) ?_ 2 _ rfl; (with_reducible repeat (first | refine blk_drewN ?_ _ | refine blk_drew ?_ | refine blk_alloc ?_ _)); refine blk_put (cs := #[.int .i64 t190, .int .i64 0, .int .i64 0]) ?_ 1 _ rfl; (with_reducible repeat (first | refine blk_drewN ?_ _ | refine blk_drew ?_ | refine blk_alloc ?_ _)); refine blk_put (cs := #[.int .i64 0, .int .i64 0, .int .i64 0]) ?_ 0 _ rfl; (with_reducible repeat (first | refine blk_drewN ?_ _ | refine blk_drew ?_ | refine blk_alloc ?_ _)); exact BK184.out) Try.underlying25 rfl (by kernel_rfl) (.cell gb185 25 #[.int .i64 x202000_5, .int .i64 x202001_5, .int .i64 x202002_5] (0, 0) _ rfl (by (with_reducible repeat (first | refine blk_drewN ?_ _ | refine blk_drew ?_ | refine blk_alloc ?_ _)); refine blk_put (cs := #[.int .i64 x202000_5, .int .i64 x202001_5, .int .i64 0]) ?_ 2 _ rfl; (with_reducible repeat (first | refine blk_drewN ?_ _ | refine blk_drew ?_ | refine blk_alloc ?_ _)); refine blk_put (cs := #[.int .i64 x202000_5, .int .i64 0, .int .i64 0]) ?_ 1 _ rfl; (with_reducible repeat (first | refine blk_drewN ?_ _ | refine blk_drew ?_ | refine blk_alloc ?_ _)); refine blk_put (cs := #[.int .i64 0, .int .i64 0, .int .i64 0]) ?_ 0 _ rfl; (with_reducible repeat (first | refine blk_drewN ?_ _ | refine blk_drew ?_ | refine blk_alloc ?_ _)); refine blk_far ?_ NB185_184.out _; (with_reducible repeat (first | refine blk_drewN ?_ _ | refine blk_drew ?_ | refine blk_alloc ?_ _)); refine blk_far ?_ NB185_184.out _; (with_reducible repeat (first | refine blk_drewN ?_ _ | refine blk_drew ?_ | refine blk_alloc ?_ _)); refine blk_far ?_ NB185_184.out _; (with_reducible repeat (first | refine blk_drewN ?_ _ | refine blk_drew ?_ | refine blk_alloc ?_ _)); exact BK185.out) Try.underlying25 rfl (by kernel_rfl) (.tmp (.tmp .nil))))) rfl ?_
                exact ⟨by first | rfl | (simp [errW_none, errW_some] <;> rfl) | (simp [*, errW_none, errW_some] <;> rfl), by repeat (first | (with_reducible first | exact HB.out | apply below_alloc | apply pw_below_drewN | apply below_drew1 | refine below_set ?_ (IsS80.ge HI189.out) | refine below_set ?_ GE184.out | refine below_set ?_ GE185.out | refine below_set ?_ GE195.out | refine below_set ?_ GE201.out) | exact HB.out)⟩
              · rw [if_neg c49] at H
                exact absurd H (by simp)
            · rw [if_neg c48] at H
              exact absurd H (by simp)
          · rw [if_neg c46] at H
            exact absurd H (by simp)
        · rw [if_neg c45] at H
          exact absurd H (by simp)
      · replace c43 := Bool.eq_false_iff.mpr c43
        subst c43
        have H1 : (some (t190, t191, t192, x202000_5, x202001_5, x202002_5, t209, wrap64 ((wrap64 (t209 + 1)) + t212))) = some (r1, r2, r3, r4, r5, r6, r7, r8) := by rw [if_neg (show ¬ (false = true) by decide)] at H; exact H
        clear H
        have H := H1
        clear H1
        simp only [Option.some.injEq, Prod.mk.injEq] at H
        obtain ⟨rfl, rfl, rfl, rfl, rfl, rfl, rfl, rfl⟩ := H
        try go_wp2_with (first | ((with_reducible refine gate_callee (f := 45) rfl ?_); refine goesL_ (some 28) rfl rfl Try.func45 (by kernel_rfl) rfl #[.pointer (some ⟨g189, 0, none⟩), .int .i64 1000] rfl (by (try simp only [List.map_toArray, List.map_cons, List.map_nil]); first | done | rfl | (simp only [List.length_drop, List.length_take]; rfl)) ?_; (with_reducible refine (spec_l1Below.calls g189 t186 x190001_5 x190002_5 1000 t209 t210 t211 w _ ?side1 ?side2 A40.out).mono ?_); (case side1 => repeat (first | (with_reducible first | exact HI189.out | apply IsS80.alloc | apply IsS80.drewN | apply IsS80.drew | apply IsS80.set_1 | apply IsS80.set_2 | refine IsS80.far ?_ NB189_184.out _ | refine IsS80.far ?_ NB189_185.out _ | refine IsS80.far ?_ NB189_195.out _ | refine IsS80.far ?_ NB189_201.out _) | exact HI189.out)); (case side2 => repeat (first | (with_reducible first | exact HB.out | apply below_alloc | apply pw_below_drewN | apply below_drew1 | refine below_set ?_ (IsS80.ge HI189.out) | refine below_set ?_ GE184.out | refine below_set ?_ GE185.out | refine below_set ?_ GE195.out | refine below_set ?_ GE201.out) | exact HB.out)); rintro e w68 ⟨rfl, hi, hb, hk⟩; refine ⟨_, rfl, ?_⟩; have n0_ := Aside0.mk (KeepBut.blk hk (g' := gb184) (o := .cells #[.int .i64 0, .int .i64 0, .int .i64 0] 25 (0, 0)) (by (with_reducible repeat (first | refine blk_drewN ?_ _ | refine blk_drew ?_ | refine blk_alloc ?_ _)); exact BK184.out) NB184_189.out (by simp)); have n1_ := Aside0.mk (KeepBut.blk hk (g' := gb185) (o := .cells #[.int .i64 0, .int .i64 0, .int .i64 0] 25 (0, 0)) (by (with_reducible repeat (first | refine blk_drewN ?_ _ | refine blk_drew ?_ | refine blk_alloc ?_ _)); exact BK185.out) NB185_189.out (by simp)); have n2_ := Aside0.mk (KeepBut.blk hk (g' := gb195) (o := .cells #[.int .i64 t190, .int .i64 t191, .int .i64 t192] 25 (0, 0)) (by (with_reducible repeat (first | refine blk_drewN ?_ _ | refine blk_drew ?_ | refine blk_alloc ?_ _)); exact BK195.out) NB195_189.out (by simp)); have n3_ := Aside0.mk (KeepBut.blk hk (g' := gb201) (o := .cells #[.int .i64 x202000_5, .int .i64 x202001_5, .int .i64 x202002_5] 25 (0, 0)) (by (with_reducible repeat (first | refine blk_drewN ?_ _ | refine blk_drew ?_ | refine blk_alloc ?_ _)); exact BK201.out) NB201_189.out (by simp)); have n4_ := Aside0.mk (hb); have n5_ := Aside0.mk (hi); clear BK184; clear BK185; clear BK195; clear BK201; clear HB; clear HI189; have BK184 := n0_; have BK185 := n1_; have BK195 := n2_; have BK201 := n3_; have HB := n4_; have HI189 := n5_; clear n0_ n1_ n2_ n3_ n4_ n5_; (try clear hb); (try clear hb2); (try clear hk); (try clear hi)) | ((with_reducible refine gate_callee (f := 45) rfl ?_); refine goesL_ (some 32) rfl rfl Try.func45 (by kernel_rfl) rfl #[.pointer (some ⟨g189, 0, none⟩), .int .i64 2000] rfl (by (try simp only [List.map_toArray, List.map_cons, List.map_nil]); first | done | rfl | (simp only [List.length_drop, List.length_take]; rfl)) ?_; (with_reducible refine (spec_l1Below.calls g189 t186 t210 t211 2000 t212 t213 t214 w _ ?side1 ?side2 A41.out).mono ?_); (case side1 => repeat (first | (with_reducible first | exact HI189.out | apply IsS80.alloc | apply IsS80.drewN | apply IsS80.drew | apply IsS80.set_1 | apply IsS80.set_2 | refine IsS80.far ?_ NB189_184.out _ | refine IsS80.far ?_ NB189_185.out _ | refine IsS80.far ?_ NB189_195.out _ | refine IsS80.far ?_ NB189_201.out _) | exact HI189.out)); (case side2 => repeat (first | (with_reducible first | exact HB.out | apply below_alloc | apply pw_below_drewN | apply below_drew1 | refine below_set ?_ (IsS80.ge HI189.out) | refine below_set ?_ GE184.out | refine below_set ?_ GE185.out | refine below_set ?_ GE195.out | refine below_set ?_ GE201.out) | exact HB.out)); rintro e w69 ⟨rfl, hi, hb, hk⟩; refine ⟨_, rfl, ?_⟩; have n0_ := Aside0.mk (KeepBut.blk hk (g' := gb184) (o := .cells #[.int .i64 0, .int .i64 0, .int .i64 0] 25 (0, 0)) (by (with_reducible repeat (first | refine blk_drewN ?_ _ | refine blk_drew ?_ | refine blk_alloc ?_ _)); exact BK184.out) NB184_189.out (by simp)); have n1_ := Aside0.mk (KeepBut.blk hk (g' := gb185) (o := .cells #[.int .i64 0, .int .i64 0, .int .i64 0] 25 (0, 0)) (by (with_reducible repeat (first | refine blk_drewN ?_ _ | refine blk_drew ?_ | refine blk_alloc ?_ _)); exact BK185.out) NB185_189.out (by simp)); have n2_ := Aside0.mk (KeepBut.blk hk (g' := gb195) (o := .cells #[.int .i64 t190, .int .i64 t191, .int .i64 t192] 25 (0, 0)) (by (with_reducible repeat (first | refine blk_drewN ?_ _ | refine blk_drew ?_ | refine blk_alloc ?_ _)); exact BK195.out) NB195_189.out (by simp)); have n3_ := Aside0.mk (KeepBut.blk hk (g' := gb201) (o := .cells #[.int .i64 x202000_5, .int .i64 x202001_5, .int .i64 x202002_5] 25 (0, 0)) (by (with_reducible repeat (first | refine blk_drewN ?_ _ | refine blk_drew ?_ | refine blk_alloc ?_ _)); exact BK201.out) NB201_189.out (by simp)); have n4_ := Aside0.mk (hb); have n5_ := Aside0.mk (hi); clear BK184; clear BK185; clear BK195; clear BK201; clear HB; clear HI189; have BK184 := n0_; have BK185 := n1_; have BK195 := n2_; have BK201 := n3_; have HB := n4_; have HI189 := n5_; clear n0_ n1_ n2_ n3_ n4_ n5_; (try clear hb); (try clear hb2); (try clear hk); (try clear hi)) | ((with_reducible refine gate_callee (f := 43) rfl ?_); refine goesL_ (some 35) rfl rfl Try.func43 (by kernel_rfl) rfl #[.pointer (some ⟨g189, 0, none⟩), .int .i64 16] rfl (by (try simp only [List.map_toArray, List.map_cons, List.map_nil]); first | done | rfl | (simp only [List.length_drop, List.length_take]; rfl)) ?_; (with_reducible refine (spec_l1Once.calls g189 t186 t213 t214 16 false t216 t217 w _ ?side1 ?side2 A42.out).mono ?_); (case side1 => repeat (first | (with_reducible first | exact HI189.out | apply IsS80.alloc | apply IsS80.drewN | apply IsS80.drew | apply IsS80.set_1 | apply IsS80.set_2 | refine IsS80.far ?_ NB189_184.out _ | refine IsS80.far ?_ NB189_185.out _ | refine IsS80.far ?_ NB189_195.out _ | refine IsS80.far ?_ NB189_201.out _) | exact HI189.out)); (case side2 => repeat (first | (with_reducible first | exact HB.out | apply below_alloc | apply pw_below_drewN | apply below_drew1 | refine below_set ?_ (IsS80.ge HI189.out) | refine below_set ?_ GE184.out | refine below_set ?_ GE185.out | refine below_set ?_ GE195.out | refine below_set ?_ GE201.out) | exact HB.out)); rintro e w70 ⟨rfl, hi, hb, hk⟩; refine ⟨_, rfl, ?_⟩; have n0_ := Aside0.mk (KeepBut.blk hk (g' := gb184) (o := .cells #[.int .i64 0, .int .i64 0, .int .i64 0] 25 (0, 0)) (by (with_reducible repeat (first | refine blk_drewN ?_ _ | refine blk_drew ?_ | refine blk_alloc ?_ _)); exact BK184.out) NB184_189.out (by simp)); have n1_ := Aside0.mk (KeepBut.blk hk (g' := gb185) (o := .cells #[.int .i64 0, .int .i64 0, .int .i64 0] 25 (0, 0)) (by (with_reducible repeat (first | refine blk_drewN ?_ _ | refine blk_drew ?_ | refine blk_alloc ?_ _)); exact BK185.out) NB185_189.out (by simp)); have n2_ := Aside0.mk (KeepBut.blk hk (g' := gb195) (o := .cells #[.int .i64 t190, .int .i64 t191, .int .i64 t192] 25 (0, 0)) (by (with_reducible repeat (first | refine blk_drewN ?_ _ | refine blk_drew ?_ | refine blk_alloc ?_ _)); exact BK195.out) NB195_189.out (by simp)); have n3_ := Aside0.mk (KeepBut.blk hk (g' := gb201) (o := .cells #[.int .i64 x202000_5, .int .i64 x202001_5, .int .i64 x202002_5] 25 (0, 0)) (by (with_reducible repeat (first | refine blk_drewN ?_ _ | refine blk_drew ?_ | refine blk_alloc ?_ _)); exact BK201.out) NB201_189.out (by simp)); have n4_ := Aside0.mk (hb); have n5_ := Aside0.mk (hi); clear BK184; clear BK185; clear BK195; clear BK201; clear HB; clear HI189; have BK184 := n0_; have BK185 := n1_; have BK195 := n2_; have BK201 := n3_; have HB := n4_; have HI189 := n5_; clear n0_ n1_ n2_ n3_ n4_ n5_; (try clear hb); (try clear hb2); (try clear hk); (try clear hi)))
        have n0_ := Aside0.mk (blk_drew BK184.out)
        have n1_ := Aside0.mk (blk_drew BK185.out)
        have n2_ := Aside0.mk (blk_drew BK195.out)
        have n3_ := Aside0.mk (blk_drew BK201.out)
        have n4_ := Aside0.mk (IsS80.drew HI189.out)
        have n5_ := Aside0.mk (below_drew1 HB.out)
        clear BK184
        clear BK185
        clear BK195
        clear BK201
        clear HI189
        clear HB
        have BK184 := n0_
        have BK185 := n1_
        have BK195 := n2_
        have BK201 := n3_
        have HI189 := n4_
        have HB := n5_
        clear n0_ n1_ n2_ n3_ n4_ n5_
        refine start_ (n := 8) (S := fun w' => w'.cell? ⟨gb195, 0, none⟩ = some (.int .i64 t190) ∧ w'.cell? ⟨gb195, 1, none⟩ = some (.int .i64 t191) ∧ w'.cell? ⟨gb195, 2, none⟩ = some (.int .i64 t192) ∧ w'.cell? ⟨gb201, 0, none⟩ = some (.int .i64 x202000_5) ∧ w'.cell? ⟨gb201, 1, none⟩ = some (.int .i64 x202001_5) ∧ w'.cell? ⟨gb201, 2, none⟩ = some (.int .i64 x202002_5)) (ds := []) #[false, false, false, false, false, false, false, false] (by kernel_rfl) rfl rfl ⟨(blk_cell BK195.out 0).trans rfl, (blk_cell BK195.out 1).trans rfl, (blk_cell BK195.out 2).trans rfl, (blk_cell BK201.out 0).trans rfl, (blk_cell BK201.out 1).trans rfl, (blk_cell BK201.out 2).trans rfl⟩ (fun hHeld => ?_); refine with_tabW spec_DrawKeyMask.tab12 spec_DrawKeyMask.bits12 (fun HT_ HW_ => ?_)
        generalize w70.drew = w71 at BK184 BK185 BK195 BK201 HI189 HB hHeld ⊢
        refine pure_ (i := 2) (N := some 50) (v := ?_) (a' := ?_) #[false, false, true, false, false, false, false, false] rfl rfl (any_of HT_.out (by kernel_rfl)) (fun _ _ _ h => h) (Or.inl ⟨by rfl, ?_⟩) ?_ ?_
        rotate_left
        · intro w'
          go_simp
          with_reducible rfl
        rotate_left
        · simp only [Act.put, List.setIfInBounds_toArray, List.set_cons_zero, List.set_cons_succ, i64_w, i32_w]
          rfl
        refine pure_ (i := 3) (N := some 51) (v := ?_) (a' := ?_) #[false, false, true, true, false, false, false, false] rfl rfl (any_of HT_.out (by kernel_rfl)) (fun _ _ _ h => h) (Or.inl ⟨by rfl, ?_⟩) ?_ ?_
        rotate_left
        · intro w'
          go_simp
          with_reducible rfl
        rotate_left
        · simp only [Act.put, List.setIfInBounds_toArray, List.set_cons_zero, List.set_cons_succ, i64_w, i32_w]
          rfl
        refine take_ (i := 0) (N := some 48) (v := ?_) (a' := ?_) #[true, false, true, true, false, false, false, false] rfl rfl (take_ofW HT_.out HW_.out (by kernel_rfl)) (fun _ _ _ h => h) (Or.inl ⟨by rfl, ?_⟩) hHeld ?_ ?_
        rotate_left
        · rintro w' ⟨s0, s1, s2, s3, s4, s5⟩
          go_simp
          with_reducible rfl
        rotate_left
        · simp only [Act.put, List.setIfInBounds_toArray, List.set_cons_zero, List.set_cons_succ, i64_w, i32_w]
          rfl
        refine take_ (i := 1) (N := some 49) (v := ?_) (a' := ?_) #[true, true, true, true, false, false, false, false] rfl rfl (take_ofW HT_.out HW_.out (by kernel_rfl)) (fun _ _ _ h => h) (Or.inl ⟨by rfl, ?_⟩) hHeld ?_ ?_
        rotate_left
        · rintro w' ⟨s0, s1, s2, s3, s4, s5⟩
          go_simp
          with_reducible rfl
        rotate_left
        · simp only [Act.put, List.setIfInBounds_toArray, List.set_cons_zero, List.set_cons_succ, i64_w, i32_w]
          rfl
        refine one_ (i := 4) (N := none) #[true, true, true, true, true, false, false, false] rfl rfl (one_of HT_.out (by kernel_rfl)) (by decide) (fun K hK => ?_)
        have hs72 : w71.cell? ⟨gb184, 0, none⟩ = some (.int .i64 0) := (blk_cell BK184.out 0).trans rfl
        have hfs72 := blk_frozen BK184.out 0
        have hns72_1 := NB185_184.out
        have hns72_2 := NB195_184.out
        have hns72_3 := NB201_184.out
        have hms72_1 := NB184_185.out
        have hms72_2 := NB184_195.out
        have hms72_3 := NB184_201.out
        have hs73 : w71.cell? ⟨gb184, 1, none⟩ = some (.int .i64 0) := (blk_cell BK184.out 1).trans rfl
        have hfs73 := blk_frozen BK184.out 1
        have hns73_1 := NB185_184.out
        have hns73_2 := NB195_184.out
        have hns73_3 := NB201_184.out
        have hms73_1 := NB184_185.out
        have hms73_2 := NB184_195.out
        have hms73_3 := NB184_201.out
        have hs74 : w71.cell? ⟨gb184, 2, none⟩ = some (.int .i64 0) := (blk_cell BK184.out 2).trans rfl
        have hfs74 := blk_frozen BK184.out 2
        have hns74_1 := NB185_184.out
        have hns74_2 := NB195_184.out
        have hns74_3 := NB201_184.out
        have hms74_1 := NB184_185.out
        have hms74_2 := NB184_195.out
        have hms74_3 := NB184_201.out
        refine skip_ (w1 := ?_) (by rfl) rfl ?_ ?_
        rotate_left
        · go_simp
          rfl
        refine hK.out _ _ ⟨((cell_far (p := ⟨gb184, _, none⟩) NB195_184.out _).trans (((cell_far (p := ⟨gb184, _, none⟩) NB195_184.out _).trans (((cell_far (p := ⟨gb184, _, none⟩) NB195_184.out _).trans (hHeld.1)))))), ((cell_far (p := ⟨gb184, _, none⟩) NB195_184.out _).trans (((cell_far (p := ⟨gb184, _, none⟩) NB195_184.out _).trans (((cell_far (p := ⟨gb184, _, none⟩) NB195_184.out _).trans (hHeld.2.1)))))), ((cell_far (p := ⟨gb184, _, none⟩) NB195_184.out _).trans (((cell_far (p := ⟨gb184, _, none⟩) NB195_184.out _).trans (((cell_far (p := ⟨gb184, _, none⟩) NB195_184.out _).trans (hHeld.2.2.1)))))), ((cell_far (p := ⟨gb184, _, none⟩) NB201_184.out _).trans (((cell_far (p := ⟨gb184, _, none⟩) NB201_184.out _).trans (((cell_far (p := ⟨gb184, _, none⟩) NB201_184.out _).trans (hHeld.2.2.2.1)))))), ((cell_far (p := ⟨gb184, _, none⟩) NB201_184.out _).trans (((cell_far (p := ⟨gb184, _, none⟩) NB201_184.out _).trans (((cell_far (p := ⟨gb184, _, none⟩) NB201_184.out _).trans (hHeld.2.2.2.2.1)))))), ((cell_far (p := ⟨gb184, _, none⟩) NB201_184.out _).trans (((cell_far (p := ⟨gb184, _, none⟩) NB201_184.out _).trans (((cell_far (p := ⟨gb184, _, none⟩) NB201_184.out _).trans (hHeld.2.2.2.2.2))))))⟩ (fun hHeld => ?_)
        clear hK K
        refine one_ (i := 5) (N := none) #[true, true, true, true, true, true, false, false] rfl rfl (one_of HT_.out (by kernel_rfl)) (by decide) (fun K hK => ?_)
        have hs75 : w71.cell? ⟨gb185, 0, none⟩ = some (.int .i64 0) := (blk_cell BK185.out 0).trans rfl
        have hfs75 := blk_frozen BK185.out 0
        have hns75_0 := NB184_185.out
        have hns75_2 := NB195_185.out
        have hns75_3 := NB201_185.out
        have hms75_0 := NB185_184.out
        have hms75_2 := NB185_195.out
        have hms75_3 := NB185_201.out
        have hs76 : w71.cell? ⟨gb185, 1, none⟩ = some (.int .i64 0) := (blk_cell BK185.out 1).trans rfl
        have hfs76 := blk_frozen BK185.out 1
        have hns76_0 := NB184_185.out
        have hns76_2 := NB195_185.out
        have hns76_3 := NB201_185.out
        have hms76_0 := NB185_184.out
        have hms76_2 := NB185_195.out
        have hms76_3 := NB185_201.out
        have hs77 : w71.cell? ⟨gb185, 2, none⟩ = some (.int .i64 0) := (blk_cell BK185.out 2).trans rfl
        have hfs77 := blk_frozen BK185.out 2
        have hns77_0 := NB184_185.out
        have hns77_2 := NB195_185.out
        have hns77_3 := NB201_185.out
        have hms77_0 := NB185_184.out
        have hms77_2 := NB185_195.out
        have hms77_3 := NB185_201.out
        refine skip_ (w1 := ?_) (by rfl) rfl ?_ ?_
        rotate_left
        · go_simp
          rfl
        refine hK.out _ _ ⟨((cell_far (p := ⟨gb185, _, none⟩) NB195_185.out _).trans (((cell_far (p := ⟨gb185, _, none⟩) NB195_185.out _).trans (((cell_far (p := ⟨gb185, _, none⟩) NB195_185.out _).trans (hHeld.1)))))), ((cell_far (p := ⟨gb185, _, none⟩) NB195_185.out _).trans (((cell_far (p := ⟨gb185, _, none⟩) NB195_185.out _).trans (((cell_far (p := ⟨gb185, _, none⟩) NB195_185.out _).trans (hHeld.2.1)))))), ((cell_far (p := ⟨gb185, _, none⟩) NB195_185.out _).trans (((cell_far (p := ⟨gb185, _, none⟩) NB195_185.out _).trans (((cell_far (p := ⟨gb185, _, none⟩) NB195_185.out _).trans (hHeld.2.2.1)))))), ((cell_far (p := ⟨gb185, _, none⟩) NB201_185.out _).trans (((cell_far (p := ⟨gb185, _, none⟩) NB201_185.out _).trans (((cell_far (p := ⟨gb185, _, none⟩) NB201_185.out _).trans (hHeld.2.2.2.1)))))), ((cell_far (p := ⟨gb185, _, none⟩) NB201_185.out _).trans (((cell_far (p := ⟨gb185, _, none⟩) NB201_185.out _).trans (((cell_far (p := ⟨gb185, _, none⟩) NB201_185.out _).trans (hHeld.2.2.2.2.1)))))), ((cell_far (p := ⟨gb185, _, none⟩) NB201_185.out _).trans (((cell_far (p := ⟨gb185, _, none⟩) NB201_185.out _).trans (((cell_far (p := ⟨gb185, _, none⟩) NB201_185.out _).trans (hHeld.2.2.2.2.2))))))⟩ (fun hHeld => ?_)
        clear hK K
        refine pure_ (i := 6) (N := some 4) (v := ?_) (a' := ?_) #[true, true, true, true, true, true, true, false] rfl rfl (any_of HT_.out (by kernel_rfl)) (fun _ _ _ h => h) (Or.inl ⟨by rfl, ?_⟩) ?_ ?_
        rotate_left
        · intro w'
          go_simp
          with_reducible rfl
        rotate_left
        · simp only [Act.put, List.setIfInBounds_toArray, List.set_cons_zero, List.set_cons_succ, i64_w, i32_w]
          rfl
        refine pure_ (i := 7) (N := some 5) (v := ?_) (a' := ?_) #[true, true, true, true, true, true, true, true] rfl rfl (any_of HT_.out (by kernel_rfl)) (fun _ _ _ h => h) (Or.inl ⟨by rfl, ?_⟩) ?_ ?_
        rotate_left
        · intro w'
          go_simp
          with_reducible rfl
        rotate_left
        · simp only [Act.put, List.setIfInBounds_toArray, List.set_cons_zero, List.set_cons_succ, i64_w, i32_w]
          rfl
        refine done_ (done_of HT_.out (by kernel_rfl)) ?_
        try go_wp2
        refine bodyPost_ret (results_list (rs := [.cell 2 25, .cell 3 25, .tmp 4, .tmp 5]) rfl (by simp) (.cell gb184 25 #[.int .i64 t190, .int .i64 t191, .int .i64 t192] (0, 0) _ rfl (by (with_reducible repeat (first | refine blk_drewN ?_ _ | refine blk_drew ?_ | refine blk_alloc ?_ _)); refine blk_far ?_ NB184_185.out _; (with_reducible repeat (first | refine blk_drewN ?_ _ | refine blk_drew ?_ | refine blk_alloc ?_ _)); refine blk_far ?_ NB184_185.out _; (with_reducible repeat (first | refine blk_drewN ?_ _ | refine blk_drew ?_ | refine blk_alloc ?_ _)); refine blk_far ?_ NB184_185.out _; (with_reducible repeat (first | refine blk_drewN ?_ _ | refine blk_drew ?_ | refine blk_alloc ?_ _)); refine blk_put (cs := #[.int .i64 t190, .int .i64 t191, .int .i64 0]) ?_ 2 _ rfl; (with_reducible repeat (first | refine blk_drewN ?_ _ | refine blk_drew ?_ | refine blk_alloc ?_ _)); refine blk_put (cs := #[.int .i64 t190, .int .i64 0, .int .i64 0]) ?_ 1 _ rfl; (with_reducible repeat (first | refine blk_drewN ?_ _ | refine blk_drew ?_ | refine blk_alloc ?_ _)); refine blk_put (cs := #[.int .i64 0, .int .i64 0, .int .i64 0]) ?_ 0 _ rfl; (with_reducible repeat (first | refine blk_drewN ?_ _ | refine blk_drew ?_ | refine blk_alloc ?_ _)); exact BK184.out) Try.underlying25 rfl (by kernel_rfl) (.cell gb185 25 #[.int .i64 x202000_5, .int .i64 x202001_5, .int .i64 x202002_5] (0, 0) _ rfl (by (with_reducible repeat (first | refine blk_drewN ?_ _ | refine blk_drew ?_ | refine blk_alloc ?_ _)); refine blk_put (cs := #[.int .i64 x202000_5, .int .i64 x202001_5, .int .i64 0]) ?_ 2 _ rfl; (with_reducible repeat (first | refine blk_drewN ?_ _ | refine blk_drew ?_ | refine blk_alloc ?_ _)); refine blk_put (cs := #[.int .i64 x202000_5, .int .i64 0, .int .i64 0]) ?_ 1 _ rfl; (with_reducible repeat (first | refine blk_drewN ?_ _ | refine blk_drew ?_ | refine blk_alloc ?_ _)); refine blk_put (cs := #[.int .i64 0, .int .i64 0, .int .i64 0]) ?_ 0 _ rfl; (with_reducible repeat (first | refine blk_drewN ?_ _ | refine blk_drew ?_ | refine blk_alloc ?_ _)); refine blk_far ?_ NB185_184.out _; (with_reducible repeat (first | refine blk_drewN ?_ _ | refine blk_drew ?_ | refine blk_alloc ?_ _)); refine blk_far ?_ NB185_184.out _; (with_reducible repeat (first | refine blk_drewN ?_ _ | refine blk_drew ?_ | refine blk_alloc ?_ _)); refine blk_far ?_ NB185_184.out _; (with_reducible repeat (first | refine blk_drewN ?_ _ | refine blk_drew ?_ | refine blk_alloc ?_ _)); exact BK185.out) Try.underlying25 rfl (by kernel_rfl) (.tmp (.tmp .nil))))) rfl ?_
        exact ⟨by first | rfl | (simp [errW_none, errW_some] <;> rfl) | (simp [*, errW_none, errW_some] <;> rfl), by repeat (first | (with_reducible first | exact HB.out | apply below_alloc | apply pw_below_drewN | apply below_drew1 | refine below_set ?_ (IsS80.ge HI189.out) | refine below_set ?_ GE184.out | refine below_set ?_ GE185.out | refine below_set ?_ GE195.out | refine below_set ?_ GE201.out) | exact HB.out)⟩

end Go.Proofs.Ytdhhdphpfleikaa.HFnKeyed
