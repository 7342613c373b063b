-- Laid by myprint.py, a program of this repo, out of the kit's printer and this repo's own texts (wip/hand).
import Derived.Test.YtelcpfanjjfgdaaHFnPackedx0
import Derived.Test.YtelcpfanjjfgdaaHFnPackedx3
import Derived.Test.YtelcpfanjjfgdaaHFnPackedx4
import Derived.Test.YtelcpfanjjfgdaaHFnPackedx6
import Derived.Test.YtelcpfanjjfgdaaHFnPackedx8
import Derived.Test.YtelcpfanjjfgdaaHFnPackedx9
import Derived.Test.YtelcpfanjjfgdaaHFnPackedx12
import Derived.Test.YtelcpfanjjfgdaaHFnPackedx13
namespace Go.Proofs.Ytelcpfanjjfgdaa.HFnPacked
open Go.RowKit Go.Proofs.YtelcpfanjjfgdaaW.PrintWords Go.Proofs.YtelcpfanjjfgdaaW.PrintLast Go.Proofs.YtelcpfanjjfgdaaW.PrintMore
attribute [local go_sem] max2_int min2_int max_two min_two max_three min_three max_four min_four   -- for this text's walks alone
set_option linter.unusedVariables false
set_option linter.unusedSimpArgs false
theorem Oa : type_of% @Aside0.mk := @Aside0.mk
theorem Ob : type_of% @Kd.R_drew := @Kd.R_drew
theorem Oc : type_of% @Kd.R_drewN := @Kd.R_drewN
theorem Od : type_of% @Kd.R_alloc := @Kd.R_alloc
theorem Oe : type_of% @pw_below_drewN := @pw_below_drewN
theorem Of : type_of% @Kd.N_drew := @Kd.N_drew
theorem Og : type_of% @any_of := @any_of
theorem Oh : type_of% @below_drew1 := @below_drew1
theorem Oi : type_of% @below_alloc := @below_alloc
theorem Oj : type_of% @Kd.C_drew := @Kd.C_drew
theorem Ok : type_of% @Kd.R_reads' := @Kd.R_reads'
theorem Ol : type_of% @Kd.N_drewN := @Kd.N_drewN
theorem Om : type_of% @Kd.N_alloc := @Kd.N_alloc
theorem On : type_of% @Kd.R_below := @Kd.R_below
theorem Oo : type_of% @Kd.C_alloc := @Kd.C_alloc
theorem Op : type_of% @Kd.C_drewN := @Kd.C_drewN
theorem Oq : type_of% @Kd.N_reads' := @Kd.N_reads'
theorem Os : type_of% @Kd.R_base := @Kd.R_base
theorem Ot : type_of% @gate_callee := @gate_callee
theorem Ou : type_of% @Kd.R_slice := @Kd.R_slice
theorem Ov : type_of% @below_size := @below_size

/-! ### laws_FnPacked: function 11 -/
mutual
def laws_FnPacked.j0 : Nat → List Int → List ByteArray → List (List Int) → List (S71) → List Int → Bool → Option (Bool)
 | 0, _, _, _, _, _, _ => none
 | k + 1, x0, x3, x4, x5, x9, x66 => if x66 = true then (some false) else (laws_FnPacked.l0 k x0 x3 x4 x5 x9 0)
def laws_FnPacked.l0 : Nat → List Int → List ByteArray → List (List Int) → List (S71) → List Int → Int → Option (Bool)
 | 0, _, _, _, _, _, _ => none
 | k + 1, x0, x3, x4, x5, x9, x10 => if x10 < (x9.length : Int) then (if 0 ≤ x10 then (if (rd x9 x10) = 0 then (laws_FnPacked.l0 k x0 x3 x4 x5 x9 (wrap64 (x10 + 1))) else (some false)) else (none)) else ((impl_Update.f k x5 x5).bind fun bt368 => (if (wrap64 ((bt368.1.length : Int) + (bt368.2.length : Int))) = 0 then (if (x3.length : Int) = 0 then (laws_FnPacked.j2 k x0 x3 x4 x5 true) else (if 0 < (x4.length : Int) then (laws_FnPacked.j2 k x0 x3 x4 x5 (((rd_L5 x4 0).length : Int) == 0)) else (none))) else (some false)))
def laws_FnPacked.j2 : Nat → List Int → List ByteArray → List (List Int) → List (S71) → Bool → Option (Bool)
 | 0, _, _, _, _, _ => none
 | k + 1, x0, x3, x4, x5, x99 => if x99 = true then (some true) else ((some (([] : List (List Int)) : List (List Int))).bind fun zr => (if zr.length + x4.length < 5864062014805 then ((some (zr ++ x4 : List (List Int))).bind fun qq => ((some (([] : List Int) : List Int)).bind fun yu => (if 0 < (x4.length : Int) then (if yu.length + (rd_L5 x4 0).length < 140737488355328 then ((some (yu ++ (rd_L5 x4 0) : List Int)).bind fun qk => ((laws_pick.f k x0 (qk.length : Int)).bind fun qf => (if 0 ≤ qf then (if qf < (qk.length : Int) then (if 0 < (qq.length : Int) then ((some (qq.set (0 : Int).toNat (qk.set (qf : Int).toNat (Go.bits .xor .u8 (rd qk qf) 16)) : List (List Int))).bind fun qw => ((impl_Verify.f k x5 x3 qw).bind fun ql => ((impl_Pack.f k x3 qw).bind fun bt395 => ((impl_Update.f k x5 bt395.1).bind fun bt399 => (if (bt399.1.length : Int) = 1 then (if 0 < (bt399.1.length : Int) then (if 0 < (x3.length : Int) then (if (rdOf ByteArray.empty bt399.1 0).toList = (rdOf ByteArray.empty x3 0).toList then (laws_FnPacked.j3 k x3 x5 ql ((bt399.2.length : Int) != 0)) else (laws_FnPacked.j3 k x3 x5 ql true)) else (none)) else (none)) else (laws_FnPacked.j3 k x3 x5 ql true)))))) else (none)) else (none)) else (none)))) else (none)) else (none)))) else (none)))
def laws_FnPacked.j3 : Nat → List ByteArray → List (S71) → List Int → Bool → Option (Bool)
 | 0, _, _, _, _ => none
 | k + 1, x3, x5, x15, x160 => if x160 = true then (some false) else (laws_FnPacked.l1 k x3 x5 x15 0)
def laws_FnPacked.l1 : Nat → List ByteArray → List (S71) → List Int → Int → Option (Bool)
 | 0, _, _, _, _ => none
 | k + 1, x3, x5, x15, x18 => if x18 < (x15.length : Int) then (if 0 ≤ x18 then (if x18 < (x5.length : Int) then (if 0 < (x3.length : Int) then (if ((rd_T71 x5 x18).f0).toList = (rdOf ByteArray.empty x3 0).toList then (if (rd x15 x18) = 3 then (laws_FnPacked.l1 k x3 x5 x15 (wrap64 (x18 + 1))) else (some false)) else (if (rd x15 x18) = 0 then (laws_FnPacked.l1 k x3 x5 x15 (wrap64 (x18 + 1))) else (some false))) else (none)) else (none)) else (none)) else (some true)
end
def laws_FnPacked.f (k : Nat) (l0 : List Int) : Option (Bool) := (laws_big.f l0).bind fun t348 => (if t348 = true then (some true) else ((spec_DrawPack.f k l0).bind fun bt349 => ((impl_Pack.f k bt349.1 bt349.2).bind fun bt355 => ((spec_Pack.f k bt349.1 bt349.2).bind fun bt359 => (if (bt355.2 != bt359.2) = true then (some false) else (if bt355.2 = true then ((impl_Verify.f k bt355.1 bt349.1 bt349.2).bind fun qj => ((impl_PackOk.f k bt355.1).bind fun yt => (if yt = true then (if (qj.length : Int) = (bt355.1.length : Int) then (laws_FnPacked.j0 k l0 bt349.1 bt349.2 bt355.1 qj ((bt355.1.length : Int) != (bt349.1.length : Int))) else (laws_FnPacked.j0 k l0 bt349.1 bt349.2 bt355.1 qj true)) else (laws_FnPacked.j0 k l0 bt349.1 bt349.2 bt355.1 qj true)))) else (some ((bt355.1.length : Int) == 0))))))))
theorem laws_FnPacked.mono_l : ∀ k, (∀ y0 y1 y2 y3 y4 y5, LeO (laws_FnPacked.j0 k y0 y1 y2 y3 y4 y5) (laws_FnPacked.j0 (k + 1) y0 y1 y2 y3 y4 y5)) ∧ (∀ y0 y1 y2 y3 y4 y5, LeO (laws_FnPacked.l0 k y0 y1 y2 y3 y4 y5) (laws_FnPacked.l0 (k + 1) y0 y1 y2 y3 y4 y5)) ∧ (∀ y0 y1 y2 y3 y4, LeO (laws_FnPacked.j2 k y0 y1 y2 y3 y4) (laws_FnPacked.j2 (k + 1) y0 y1 y2 y3 y4)) ∧ (∀ y0 y1 y2 y3, LeO (laws_FnPacked.j3 k y0 y1 y2 y3) (laws_FnPacked.j3 (k + 1) y0 y1 y2 y3)) ∧ (∀ y0 y1 y2 y3, LeO (laws_FnPacked.l1 k y0 y1 y2 y3) (laws_FnPacked.l1 (k + 1) y0 y1 y2 y3))
 | 0 => ⟨fun _ _ _ _ _ _ r h => by simp [laws_FnPacked.j0] at h, fun _ _ _ _ _ _ r h => by simp [laws_FnPacked.l0] at h, fun _ _ _ _ _ r h => by simp [laws_FnPacked.j2] at h, fun _ _ _ _ r h => by simp [laws_FnPacked.j3] at h, fun _ _ _ _ r h => by simp [laws_FnPacked.l1] at h⟩
 | k + 1 => by
  obtain⟨ih0,ih1,ih2,ih3,ih4⟩:=laws_FnPacked.mono_l k
  refine⟨?_,?_,?_,?_,?_⟩
  ·intro y0 y1 y2 y3 y4 y5
   unfold laws_FnPacked.j0
   repeat' first
   | (with_reducible exact ih0 _ _ _ _ _ _)
   | (with_reducible exact ih1 _ _ _ _ _ _)
   | (with_reducible exact ih2 _ _ _ _ _)
   | (with_reducible exact ih3 _ _ _ _)
   | (with_reducible exact ih4 _ _ _ _)
   | (with_reducible exact impl_Pack.mono _ _ _)
   | (with_reducible exact impl_PackOk.mono _ _)
   | (with_reducible exact impl_Update.mono _ _ _)
   | (with_reducible exact impl_Verify.mono _ _ _ _)
   | (with_reducible exact laws_pick.mono _ _ _)
   | (with_reducible exact spec_DrawPack.mono _ _)
   | (with_reducible exact spec_Pack.mono _ _ _)
   | (with_reducible exact LeO.refl _)
   | (with_reducible exact LeO.none _)
   | (with_reducible refine LeO.ite ?_ ?_)
   | (with_reducible refine LeO.bind ?_ (fun _ => ?_))
   | exact ih0 _ _ _ _ _ _
   | exact ih1 _ _ _ _ _ _
   | exact ih2 _ _ _ _ _
   | exact ih3 _ _ _ _
   | exact ih4 _ _ _ _
   | exact impl_Pack.mono _ _ _
   | exact impl_PackOk.mono _ _
   | exact impl_Update.mono _ _ _
   | exact impl_Verify.mono _ _ _ _
   | exact laws_pick.mono _ _ _
   | exact spec_DrawPack.mono _ _
   | exact spec_Pack.mono _ _ _
   | exact LeO.none _
   | refine LeO.ite ?_ ?_
   | refine LeO.bind ?_ (fun _ => ?_)
  ·intro y0 y1 y2 y3 y4 y5
   unfold laws_FnPacked.l0
   repeat' first
   | (with_reducible exact ih0 _ _ _ _ _ _)
   | (with_reducible exact ih1 _ _ _ _ _ _)
   | (with_reducible exact ih2 _ _ _ _ _)
   | (with_reducible exact ih3 _ _ _ _)
   | (with_reducible exact ih4 _ _ _ _)
   | (with_reducible exact impl_Pack.mono _ _ _)
   | (with_reducible exact impl_PackOk.mono _ _)
   | (with_reducible exact impl_Update.mono _ _ _)
   | (with_reducible exact impl_Verify.mono _ _ _ _)
   | (with_reducible exact laws_pick.mono _ _ _)
   | (with_reducible exact spec_DrawPack.mono _ _)
   | (with_reducible exact spec_Pack.mono _ _ _)
   | (with_reducible exact LeO.refl _)
   | (with_reducible exact LeO.none _)
   | (with_reducible refine LeO.ite ?_ ?_)
   | (with_reducible refine LeO.bind ?_ (fun _ => ?_))
   | exact ih0 _ _ _ _ _ _
   | exact ih1 _ _ _ _ _ _
   | exact ih2 _ _ _ _ _
   | exact ih3 _ _ _ _
   | exact ih4 _ _ _ _
   | exact impl_Pack.mono _ _ _
   | exact impl_PackOk.mono _ _
   | exact impl_Update.mono _ _ _
   | exact impl_Verify.mono _ _ _ _
   | exact laws_pick.mono _ _ _
   | exact spec_DrawPack.mono _ _
   | exact spec_Pack.mono _ _ _
   | exact LeO.none _
   | refine LeO.ite ?_ ?_
   | refine LeO.bind ?_ (fun _ => ?_)
  ·intro y0 y1 y2 y3 y4
   unfold laws_FnPacked.j2
   repeat' first
   | (with_reducible exact ih0 _ _ _ _ _ _)
   | (with_reducible exact ih1 _ _ _ _ _ _)
   | (with_reducible exact ih2 _ _ _ _ _)
   | (with_reducible exact ih3 _ _ _ _)
   | (with_reducible exact ih4 _ _ _ _)
   | (with_reducible exact impl_Pack.mono _ _ _)
   | (with_reducible exact impl_PackOk.mono _ _)
   | (with_reducible exact impl_Update.mono _ _ _)
   | (with_reducible exact impl_Verify.mono _ _ _ _)
   | (with_reducible exact laws_pick.mono _ _ _)
   | (with_reducible exact spec_DrawPack.mono _ _)
   | (with_reducible exact spec_Pack.mono _ _ _)
   | (with_reducible exact LeO.refl _)
   | (with_reducible exact LeO.none _)
   | (with_reducible refine LeO.ite ?_ ?_)
   | (with_reducible refine LeO.bind ?_ (fun _ => ?_))
   | exact ih0 _ _ _ _ _ _
   | exact ih1 _ _ _ _ _ _
   | exact ih2 _ _ _ _ _
   | exact ih3 _ _ _ _
   | exact ih4 _ _ _ _
   | exact impl_Pack.mono _ _ _
   | exact impl_PackOk.mono _ _
   | exact impl_Update.mono _ _ _
   | exact impl_Verify.mono _ _ _ _
   | exact laws_pick.mono _ _ _
   | exact spec_DrawPack.mono _ _
   | exact spec_Pack.mono _ _ _
   | exact LeO.none _
   | refine LeO.ite ?_ ?_
   | refine LeO.bind ?_ (fun _ => ?_)
  ·intro y0 y1 y2 y3
   unfold laws_FnPacked.j3
   repeat' first
   | (with_reducible exact ih0 _ _ _ _ _ _)
   | (with_reducible exact ih1 _ _ _ _ _ _)
   | (with_reducible exact ih2 _ _ _ _ _)
   | (with_reducible exact ih3 _ _ _ _)
   | (with_reducible exact ih4 _ _ _ _)
   | (with_reducible exact impl_Pack.mono _ _ _)
   | (with_reducible exact impl_PackOk.mono _ _)
   | (with_reducible exact impl_Update.mono _ _ _)
   | (with_reducible exact impl_Verify.mono _ _ _ _)
   | (with_reducible exact laws_pick.mono _ _ _)
   | (with_reducible exact spec_DrawPack.mono _ _)
   | (with_reducible exact spec_Pack.mono _ _ _)
   | (with_reducible exact LeO.refl _)
   | (with_reducible exact LeO.none _)
   | (with_reducible refine LeO.ite ?_ ?_)
   | (with_reducible refine LeO.bind ?_ (fun _ => ?_))
   | exact ih0 _ _ _ _ _ _
   | exact ih1 _ _ _ _ _ _
   | exact ih2 _ _ _ _ _
   | exact ih3 _ _ _ _
   | exact ih4 _ _ _ _
   | exact impl_Pack.mono _ _ _
   | exact impl_PackOk.mono _ _
   | exact impl_Update.mono _ _ _
   | exact impl_Verify.mono _ _ _ _
   | exact laws_pick.mono _ _ _
   | exact spec_DrawPack.mono _ _
   | exact spec_Pack.mono _ _ _
   | exact LeO.none _
   | refine LeO.ite ?_ ?_
   | refine LeO.bind ?_ (fun _ => ?_)
  ·intro y0 y1 y2 y3
   unfold laws_FnPacked.l1
   repeat' first
   | (with_reducible exact ih0 _ _ _ _ _ _)
   | (with_reducible exact ih1 _ _ _ _ _ _)
   | (with_reducible exact ih2 _ _ _ _ _)
   | (with_reducible exact ih3 _ _ _ _)
   | (with_reducible exact ih4 _ _ _ _)
   | (with_reducible exact impl_Pack.mono _ _ _)
   | (with_reducible exact impl_PackOk.mono _ _)
   | (with_reducible exact impl_Update.mono _ _ _)
   | (with_reducible exact impl_Verify.mono _ _ _ _)
   | (with_reducible exact laws_pick.mono _ _ _)
   | (with_reducible exact spec_DrawPack.mono _ _)
   | (with_reducible exact spec_Pack.mono _ _ _)
   | (with_reducible exact LeO.refl _)
   | (with_reducible exact LeO.none _)
   | (with_reducible refine LeO.ite ?_ ?_)
   | (with_reducible refine LeO.bind ?_ (fun _ => ?_))
   | exact ih0 _ _ _ _ _ _
   | exact ih1 _ _ _ _ _ _
   | exact ih2 _ _ _ _ _
   | exact ih3 _ _ _ _
   | exact ih4 _ _ _ _
   | exact impl_Pack.mono _ _ _
   | exact impl_PackOk.mono _ _
   | exact impl_Update.mono _ _ _
   | exact impl_Verify.mono _ _ _ _
   | exact laws_pick.mono _ _ _
   | exact spec_DrawPack.mono _ _
   | exact spec_Pack.mono _ _ _
   | exact LeO.none _
   | refine LeO.ite ?_ ?_
   | refine LeO.bind ?_ (fun _ => ?_)
theorem laws_FnPacked.mono : ∀ a0 k, LeO (laws_FnPacked.f k a0) (laws_FnPacked.f (k + 1) a0) := by
 intro a0 k
 obtain⟨ih0,ih1,ih2,ih3,ih4⟩:=laws_FnPacked.mono_l k
 unfold laws_FnPacked.f
 repeat' first
   | (with_reducible exact ih0 _ _ _ _ _ _)
   | (with_reducible exact ih1 _ _ _ _ _ _)
   | (with_reducible exact ih2 _ _ _ _ _)
   | (with_reducible exact ih3 _ _ _ _)
   | (with_reducible exact ih4 _ _ _ _)
   | (with_reducible exact impl_Pack.mono _ _ _)
   | (with_reducible exact impl_PackOk.mono _ _)
   | (with_reducible exact impl_Update.mono _ _ _)
   | (with_reducible exact impl_Verify.mono _ _ _ _)
   | (with_reducible exact laws_pick.mono _ _ _)
   | (with_reducible exact spec_DrawPack.mono _ _)
   | (with_reducible exact spec_Pack.mono _ _ _)
   | (with_reducible exact LeO.refl _)
   | (with_reducible exact LeO.none _)
   | (with_reducible refine LeO.ite ?_ ?_)
   | (with_reducible refine LeO.bind ?_ (fun _ => ?_))
   | exact ih0 _ _ _ _ _ _
   | exact ih1 _ _ _ _ _ _
   | exact ih2 _ _ _ _ _
   | exact ih3 _ _ _ _
   | exact ih4 _ _ _ _
   | exact impl_Pack.mono _ _ _
   | exact impl_PackOk.mono _ _
   | exact impl_Update.mono _ _ _
   | exact impl_Verify.mono _ _ _ _
   | exact laws_pick.mono _ _ _
   | exact spec_DrawPack.mono _ _
   | exact spec_Pack.mono _ _ _
   | exact LeO.none _
   | refine LeO.ite ?_ ?_
   | refine LeO.bind ?_ (fun _ => ?_)
theorem bend_same {W : World} {a : Addr} {u v : Value} (h : W.cell? a = some u) : (W.setCell a v).cell? a = some v := World.cell?_setCell_same' W a v (by rw [h]; rfl)
theorem bend_ne {W : World} {g h t u : Nat} {c d : Array Value} (hg : W.heap[g]? = some (.cells c t (0, 0))) (hh : W.heap[h]? = some (.cells d u (0, 0))) (hn : u ≠ t) : h ≠ g := by
 rintro rfl
 rw [hg] at hh
 injection hh with hh
 injection hh with _ hh _
 exact hn hh.symm
theorem bend_frozen {W : World} {p a : Addr} {v : Value} (h : p.block ≠ a.block) (hf : W.frozen? a = false) : (W.setCell p v).frozen? a = false := by
 have:=Below.heap_setCell W p v a.block (Ne.symm h)
 simp only [World.frozen?,this] at hf ⊢
 exact hf
theorem swap_set (W : World) (p q : Addr) (u v : Value) (h : p.block ≠ q.block) : (W.setCell p u).setCell q v = (W.setCell q v).setCell p u := by
 simp only [World.setCell]
 congr 1
 apply Array.ext_getElem?
 intro i
 simp only [Array.getElem?_modify]
 by_cases h1:q.block=i
 ·have h2:p.block≠i:=fun e=>h (e.trans h1.symm)
  simp [h1,h2]
 ·by_cases h2:p.block=i
  ·simp [h1,h2]
  ·simp [h1,h2]
theorem bend_worlds {W S T R : World} {p q : Addr} {u v : Value} {n : Nat} (hS : S = W.setCell p v) (hT : S.drewN n = T) (hR : T.drew = R) (h : p.block ≠ q.block) : R.setCell q u = (((W.drewN n).drew).setCell q u).setCell p v := by
 subst hS hT hR
 exact swap_set (W.drewN n).drew p q v u h
def laws_FnPacked.T26 : Bool × List (List Nat × List Nat) := (true, [([], []), ([0], [0]), ([1], [1]), ([], []), ([], []), ([4], [4]), ([5], [5]), ([], []), ([6, 7], [6, 7]), ([8], [8]), ([9], [9]), ([2, 3, 0, 1, 2, 3, 4, 5, 6, 7, 8, 9, 10], [2, 3]), ([11, 10, 0, 1, 2, 3, 4, 5, 6, 7, 8, 9, 10], [10, 11])])
def laws_FnPacked.B26 : List Nat := [0, 1, 3, 0, 0, 16, 48, 0, 240, 496, 1008, 2047, 4095]
theorem laws_FnPacked.tab26 : rtab .any (opsOf Try.f11 26) = laws_FnPacked.T26 := by kernel_rfl
theorem laws_FnPacked.bits26 : waitsOk laws_FnPacked.T26.2 laws_FnPacked.B26 = true := by kernel_rfl
def laws_FnPacked.T30 : Bool × List (List Nat × List Nat) := (true, [([], []), ([0], [0]), ([1], [1]), ([2], [2]), ([3], [3]), ([4, 3], [3, 4]), ([5, 3], [3, 5]), ([3], [3]), ([7, 3], [3, 7]), ([8, 3], [3, 8]), ([6, 9, 3], [3, 6, 9]), ([3, 10], [3, 10]), ([11, 3], [11]), ([12], [12]), ([13, 12], [12, 13]), ([14, 12], [12, 14]), ([12, 15], [12, 15])])
def laws_FnPacked.B30 : List Nat := [0, 1, 3, 7, 15, 31, 63, 15, 143, 399, 1023, 2047, 4095, 8191, 16383, 32767, 65535]
theorem laws_FnPacked.tab30 : rtab .any (opsOf Try.f11 30) = laws_FnPacked.T30 := by kernel_rfl
theorem laws_FnPacked.bits30 : waitsOk laws_FnPacked.T30.2 laws_FnPacked.B30 = true := by kernel_rfl
def laws_FnPacked.T35 : Bool × List (List Nat × List Nat) := (true, [([], []), ([], []), ([0, 1], [0, 1]), ([2], [2]), ([3], [3]), ([], []), ([5], [5]), ([6], [6]), ([4, 7], [4, 7]), ([8], [8]), ([9], [9]), ([9], [9]), ([10, 11, 9], [9, 10, 11]), ([12, 9], [9, 12]), ([13, 9], [9, 13]), ([9, 14], [9, 14]), ([15, 9], [15]), ([16], [16]), ([16], [16]), ([17, 18, 16], [16, 17, 18]), ([19, 16], [16, 19]), ([20, 16], [16, 20]), ([16], [16]), ([22, 16], [16, 22]), ([23, 16], [16, 23]), ([21, 24, 16], [16, 21, 24]), ([25, 16, 16], [16, 25]), ([26], [26]), ([26], [26]), ([27, 28, 26], [26, 27, 28]), ([29, 26], [26, 29]), ([30, 26], [26, 30]), ([26, 31, 16], [16, 26, 31]), ([16, 32], [16, 32])])
def laws_FnPacked.B35 : List Nat := [0, 0, 3, 7, 15, 0, 32, 96, 255, 511, 1023, 1023, 4095, 8191, 16383, 32767, 65535, 131071, 131071, 524287, 1048575, 2097151, 131071, 4325375, 12713983, 33554431, 67108863, 134217727, 134217727, 536870911, 1073741823, 2147483647, 4294967295, 8589934591]
theorem laws_FnPacked.tab35 : rtab .any (opsOf Try.f11 35) = laws_FnPacked.T35 := by kernel_rfl
theorem laws_FnPacked.bits35 : waitsOk laws_FnPacked.T35.2 laws_FnPacked.B35 = true := by kernel_rfl
set_option maxHeartbeats 8000000 in
set_option maxRecDepth 100000 in
theorem laws_FnPacked.calls (k : Nat) (A0 : Option Addr) (c0 : Nat) (l0 : List Int) (r : Bool) (w : World) (hr0 : Kd.C (Kd.int .u8) w A0 l0.length l0) (hc0 : l0.length ≤ c0) (h : laws_FnPacked.f k l0 = some true) :
  Calls Try.prog 11 #[.slice A0 l0.length c0] w fun e w'=>e=.returned (.bool true)∧Below w.heap.size w w':=by
 have HR0:=Oa hr0
 have HC0:=Oa hc0
 clear hr0 hc0
 have HB:=Oa (Below.refl w.heap.size w)
 have H:((laws_big.f l0).bind fun t348=>(if t348=true then (some true) else ((spec_DrawPack.f k l0).bind fun bt349=>((impl_Pack.f k bt349.1 bt349.2).bind fun bt355=>((spec_Pack.f k bt349.1 bt349.2).bind fun bt359=>(if (bt355.2 != bt359.2)=true then (some false) else (if bt355.2=true then ((impl_Verify.f k bt355.1 bt349.1 bt349.2).bind fun qj=>((impl_PackOk.f k bt355.1).bind fun yt=>(if yt=true then (if (qj.length:Int)=(bt355.1.length:Int) then (laws_FnPacked.j0 k l0 bt349.1 bt349.2 bt355.1 qj ((bt355.1.length:Int) != (bt349.1.length:Int))) else (laws_FnPacked.j0 k l0 bt349.1 bt349.2 bt355.1 qj true)) else (laws_FnPacked.j0 k l0 bt349.1 bt349.2 bt355.1 qj true)))) else (some ((bt355.1.length:Int) == 0)))))))))=some true:=h
 clear h
 replace H:=Option.bind_eq_some_iff.mp H
 obtain⟨t348,A20,H⟩:=H
 replace H:(if t348=true then (some true) else ((spec_DrawPack.f k l0).bind fun bt349=>((impl_Pack.f k bt349.1 bt349.2).bind fun bt355=>((spec_Pack.f k bt349.1 bt349.2).bind fun bt359=>(if (bt355.2 != bt359.2)=true then (some false) else (if bt355.2=true then ((impl_Verify.f k bt355.1 bt349.1 bt349.2).bind fun qj=>((impl_PackOk.f k bt355.1).bind fun yt=>(if yt=true then (if (qj.length:Int)=(bt355.1.length:Int) then (laws_FnPacked.j0 k l0 bt349.1 bt349.2 bt355.1 qj ((bt355.1.length:Int) != (bt349.1.length:Int))) else (laws_FnPacked.j0 k l0 bt349.1 bt349.2 bt355.1 qj true)) else (laws_FnPacked.j0 k l0 bt349.1 bt349.2 bt355.1 qj true)))) else (some ((bt355.1.length:Int) == 0))))))))=some true:=H
 have A2:=Oa A20
 clear A20
 by_cases c3:t348=true
 ·subst c3
  have H1:(some true)=some true:=rfl
  clear H
  have H:=H1
  clear H1
  clear H
  go_enter Try.func11,Try.ntmps11
  go_wp2_with (first|((with_reducible refine Ot (f:=29) rfl ?_);refine goesL_ (some 20) rfl rfl Try.func29 (by kernel_rfl) rfl #[.slice A0 l0.length c0] rfl (by(try simp only [List.map_toArray,List.map_cons,List.map_nil]);first|done|rfl|(simp only [List.length_drop,List.length_take];rfl)) ?_;(with_reducible refine(laws_big.calls _ _ l0 true _ ?side1 ?side2 A2.out).mono ?_);(case side1=>repeat(first|exact HR0.out|(with_reducible refine Oo ?_ _)|(with_reducible refine Op ?_ _)|(with_reducible refine Oj ?_)));(case side2=>exact HC0.out);rintro e w' ⟨rfl,⟨nd,rfl⟩⟩;refine⟨_,rfl,?_⟩))
  go_ret
  exact⟨by first|rfl|(simp [errW_none,errW_some] <;> rfl)|(simp [*,errW_none,errW_some] <;> rfl),by repeat(first|(with_reducible first|exact HB.out|apply Oi|apply Oe|apply Oh)|exact HB.out)⟩
 ·replace c3:=Bool.eq_false_iff.mpr c3
  subst c3
  have H1:((spec_DrawPack.f k l0).bind fun bt349=>((impl_Pack.f k bt349.1 bt349.2).bind fun bt355=>((spec_Pack.f k bt349.1 bt349.2).bind fun bt359=>(if (bt355.2 != bt359.2)=true then (some false) else (if bt355.2=true then ((impl_Verify.f k bt355.1 bt349.1 bt349.2).bind fun qj=>((impl_PackOk.f k bt355.1).bind fun yt=>(if yt=true then (if (qj.length:Int)=(bt355.1.length:Int) then (laws_FnPacked.j0 k l0 bt349.1 bt349.2 bt355.1 qj ((bt355.1.length:Int) != (bt349.1.length:Int))) else (laws_FnPacked.j0 k l0 bt349.1 bt349.2 bt355.1 qj true)) else (laws_FnPacked.j0 k l0 bt349.1 bt349.2 bt355.1 qj true)))) else (some ((bt355.1.length:Int) == 0)))))))=some true:=by rw [if_neg (show ¬ (false=true) by decide)] at H;exact H
  clear H
  have H:=H1
  clear H1
  replace H:=Option.bind_eq_some_iff.mp H
  obtain⟨⟨qa,qd⟩,A40,H⟩:=H
  replace H:((impl_Pack.f k qa qd).bind fun bt355=>((spec_Pack.f k qa qd).bind fun bt359=>(if (bt355.2 != bt359.2)=true then (some false) else (if bt355.2=true then ((impl_Verify.f k bt355.1 qa qd).bind fun qj=>((impl_PackOk.f k bt355.1).bind fun yt=>(if yt=true then (if (qj.length:Int)=(bt355.1.length:Int) then (laws_FnPacked.j0 k l0 qa qd bt355.1 qj ((bt355.1.length:Int) != (qa.length:Int))) else (laws_FnPacked.j0 k l0 qa qd bt355.1 qj true)) else (laws_FnPacked.j0 k l0 qa qd bt355.1 qj true)))) else (some ((bt355.1.length:Int) == 0))))))=some true:=H
  have A4:=Oa A40
  clear A40
  replace H:=Option.bind_eq_some_iff.mp H
  obtain⟨⟨qb,zc⟩,A50,H⟩:=H
  replace H:((spec_Pack.f k qa qd).bind fun bt359=>(if (zc != bt359.2)=true then (some false) else (if zc=true then ((impl_Verify.f k qb qa qd).bind fun qj=>((impl_PackOk.f k qb).bind fun yt=>(if yt=true then (if (qj.length:Int)=(qb.length:Int) then (laws_FnPacked.j0 k l0 qa qd qb qj ((qb.length:Int) != (qa.length:Int))) else (laws_FnPacked.j0 k l0 qa qd qb qj true)) else (laws_FnPacked.j0 k l0 qa qd qb qj true)))) else (some ((qb.length:Int) == 0)))))=some true:=H
  have A5:=Oa A50
  clear A50
  replace H:=Option.bind_eq_some_iff.mp H
  obtain⟨⟨t359,zq⟩,A60,H⟩:=H
  replace H:(if (zc != zq)=true then (some false) else (if zc=true then ((impl_Verify.f k qb qa qd).bind fun qj=>((impl_PackOk.f k qb).bind fun yt=>(if yt=true then (if (qj.length:Int)=(qb.length:Int) then (laws_FnPacked.j0 k l0 qa qd qb qj ((qb.length:Int) != (qa.length:Int))) else (laws_FnPacked.j0 k l0 qa qd qb qj true)) else (laws_FnPacked.j0 k l0 qa qd qb qj true)))) else (some ((qb.length:Int) == 0))))=some true:=H
  have A6:=Oa A60
  clear A60
  by_cases c7:(zc != zq)=true
  ·rw [if_pos c7] at H
   have c7b0:(zc != zq)=true:=c7
   (try(have c7b1:decide (zc=zq)=false:=by simpa using c7))
   (try(have c7b2:(zc == zq)=false:=by simpa using c7))
   (try(have c7b3 : ¬ (zc=zq):=by simpa using c7))
   clear c7
   exact absurd (Option.some.inj H) Bool.false_ne_true
  ·rw [if_neg c7] at H
   have c7b0:(zc != zq)=false:=by simpa using c7
   (try(have c7b1:decide (zc=zq)=true:=by simpa using c7))
   (try(have c7b2:(zc == zq)=true:=by simpa using c7))
   clear c7
   by_cases c13:zc=true
   ·subst c13
    have H1:((impl_Verify.f k qb qa qd).bind fun qj=>((impl_PackOk.f k qb).bind fun yt=>(if yt=true then (if (qj.length:Int)=(qb.length:Int) then (laws_FnPacked.j0 k l0 qa qd qb qj ((qb.length:Int) != (qa.length:Int))) else (laws_FnPacked.j0 k l0 qa qd qb qj true)) else (laws_FnPacked.j0 k l0 qa qd qb qj true))))=some true:=by rw [if_pos rfl] at H;exact H
    clear H
    have H:=H1
    clear H1
    replace H:=Option.bind_eq_some_iff.mp H
    obtain⟨qj,A140,H⟩:=H
    replace H:((impl_PackOk.f k qb).bind fun yt=>(if yt=true then (if (qj.length:Int)=(qb.length:Int) then (laws_FnPacked.j0 k l0 qa qd qb qj ((qb.length:Int) != (qa.length:Int))) else (laws_FnPacked.j0 k l0 qa qd qb qj true)) else (laws_FnPacked.j0 k l0 qa qd qb qj true)))=some true:=H
    have A14:=Oa A140
    clear A140
    have HC15:=Oa H
    clear H
    go_enter Try.func11,Try.ntmps11
    go_upto_region 11 with (first|((with_reducible refine Ot (f:=29) rfl ?_);refine goesL_ (some 20) rfl rfl Try.func29 (by kernel_rfl) rfl #[.slice A0 l0.length c0] rfl (by(try simp only [List.map_toArray,List.map_cons,List.map_nil]);first|done|rfl|(simp only [List.length_drop,List.length_take];rfl)) ?_;(with_reducible refine(laws_big.calls _ _ l0 false _ ?side1 ?side2 A2.out).mono ?_);(case side1=>repeat(first|exact HR0.out|(with_reducible refine Oo ?_ _)|(with_reducible refine Op ?_ _)|(with_reducible refine Oj ?_)));(case side2=>exact HC0.out);rintro e w' ⟨rfl,⟨nd,rfl⟩⟩;refine⟨_,rfl,?_⟩)|((with_reducible refine Ot (f:=49) rfl ?_);refine goesL_ (some 23) rfl rfl Try.func49 (by kernel_rfl) rfl #[.slice A0 l0.length c0] rfl (by(try simp only [List.map_toArray,List.map_cons,List.map_nil]);first|done|rfl|(simp only [List.length_drop,List.length_take];rfl)) ?_;(with_reducible refine(spec_DrawPack.calls k _ _ l0 qa qd _ ?side1 ?side2 A4.out).mono ?_);(case side1=>repeat(first|exact HR0.out|(with_reducible refine Oo ?_ _)|(with_reducible refine Op ?_ _)|(with_reducible refine Oj ?_)));(case side2=>exact HC0.out);rintro e w16 ⟨v351,v353,rfl,yi,ho1,hb⟩;refine⟨_,rfl,?_⟩;have qs:=Oa (Kd.R_lower yi (Ov (by repeat(first|(with_reducible first|exact HB.out|apply Oi|apply Oe|apply Oh)|exact HB.out))));have qt:=Oa (Kd.N_lower (Kd.N_mono (ok':=fun k_=>some k_≠(v351:Value).ownBlock) (Kd.S_N (Kd.S_bound (Kd.S_apart' ho1 (Kd.R_typed yi) (by decide)))) (fun k_ hk_=>hk_.1.2)) (Ov (by repeat(first|(with_reducible first|exact HB.out|apply Oi|apply Oe|apply Oh)|exact HB.out))));have qu:=Oa (below_step (by repeat(first|(with_reducible first|exact HB.out|apply Oi|apply Oe|apply Oh)|exact HB.out)) hb);clear HB;have qn:=qs;have qo:=qt;have HB:=qu;clear qs qt qu;(try clear hb);(try clear hb2);(try clear hk);(try clear hi);(try clear yi);(try clear ho1);obtain⟨ya,yc,eo17⟩:=Ou qn.out;subst eo17;obtain⟨Ao18,zb,eo18⟩:=Kd.N_slice qo.out;subst eo18)|((with_reducible refine Ot (f:=50) rfl ?_);refine goesL_ (some 29) rfl rfl Try.func50 (by kernel_rfl) rfl #[.slice ya qa.length yc,.slice Ao18 qd.length zb] rfl (by(try simp only [List.map_toArray,List.map_cons,List.map_nil]);first|done|rfl|(simp only [List.length_drop,List.length_take];rfl)) ?_;(with_reducible refine(impl_Pack.calls k _ _ qa _ _ qd qb true _ ?side1 ?side2 ?side3 ?side4 A5.out).mono ?_);(case side1=>repeat(first|exact(Ok qn.out).2.2|(with_reducible refine Oo ?_ _)|(with_reducible refine Op ?_ _)|(with_reducible refine Oj ?_)));(case side2=>exact(Ok qn.out).2.1);(case side3=>repeat(first|exact(Oq qo.out).2.2|(with_reducible refine Oo ?_ _)|(with_reducible refine Op ?_ _)|(with_reducible refine Oj ?_)));(case side4=>exact(Oq qo.out).2.1);rintro e w19 ⟨v357,rfl,yi,hb⟩;refine⟨_,rfl,?_⟩;have qs:=Oa (On (by(with_reducible repeat(first|apply Od|apply Oc|apply Ob));exact qn.out) hb);have qt:=Oa (Kd.N_elder' (by(with_reducible repeat(first|apply Om|apply Ol|apply Of));exact qo.out) (Os yi) hb);have qu:=Oa (Kd.R_lower yi (Ov (by repeat(first|(with_reducible first|exact HB.out|apply Oi|apply Oe|apply Oh)|exact HB.out))));have qv:=Oa (below_step (by repeat(first|(with_reducible first|exact HB.out|apply Oi|apply Oe|apply Oh)|exact HB.out)) hb);clear qn;clear qo;clear HB;have qn:=qs;have qo:=qt;have qp:=qu;have HB:=qv;clear qs qt qu qv;(try clear hb);(try clear hb2);(try clear hk);(try clear hi);(try clear yi))|((with_reducible refine Ot (f:=51) rfl ?_);refine goesL_ (some 35) rfl rfl Try.func51 (by kernel_rfl) rfl #[.slice ya qa.length yc,.slice Ao18 qd.length zb] rfl (by(try simp only [List.map_toArray,List.map_cons,List.map_nil]);first|done|rfl|(simp only [List.length_drop,List.length_take];rfl)) ?_;(with_reducible refine(spec_Pack.calls k _ _ qa _ _ qd t359 zq _ ?side1 ?side2 ?side3 ?side4 A6.out).mono ?_);(case side1=>repeat(first|exact(Ok qn.out).2.2|(with_reducible refine Oo ?_ _)|(with_reducible refine Op ?_ _)|(with_reducible refine Oj ?_)));(case side2=>exact(Ok qn.out).2.1);(case side3=>repeat(first|exact(Oq qo.out).2.2|(with_reducible refine Oo ?_ _)|(with_reducible refine Op ?_ _)|(with_reducible refine Oj ?_)));(case side4=>exact(Oq qo.out).2.1);rintro e w20 ⟨v361,rfl,yi,hb⟩;refine⟨_,rfl,?_⟩;have qs:=Oa (On (by(with_reducible repeat(first|apply Od|apply Oc|apply Ob));exact qn.out) hb);have qt:=Oa (Kd.N_elder' (by(with_reducible repeat(first|apply Om|apply Ol|apply Of));exact qo.out) (Os yi) hb);have qu:=Oa (Kd.R_elder' (by(with_reducible repeat(first|apply Od|apply Oc|apply Ob));exact qp.out) (Os yi) hb);have qv:=Oa (Kd.R_lower (Kd.R_new' yi (Kd.R_lt (by(with_reducible repeat(first|apply Od|apply Oc|apply Ob));exact qp.out))) (Ov (by repeat(first|(with_reducible first|exact HB.out|apply Oi|apply Oe|apply Oh)|exact HB.out))));have yd:=Oa (below_step (by repeat(first|(with_reducible first|exact HB.out|apply Oi|apply Oe|apply Oh)|exact HB.out)) hb);clear qn;clear qo;clear qp;clear HB;have qn:=qs;have qo:=qt;have qp:=qu;have yr:=qv;have HB:=yd;clear qs qt qu qv yd;(try clear hb);(try clear hb2);(try clear hk);(try clear hi);(try clear yi);obtain⟨qx,qz,eo21⟩:=Ou qp.out;subst eo21)|((with_reducible refine Ot (f:=43) rfl ?_);refine goesL_ (some 49) rfl rfl Try.func43 (by kernel_rfl) rfl #[.slice qx qb.length qz,.slice ya qa.length yc,.slice Ao18 qd.length zb] rfl (by(try simp only [List.map_toArray,List.map_cons,List.map_nil]);first|done|rfl|(simp only [List.length_drop,List.length_take];rfl)) ?_;(with_reducible refine(impl_Verify.calls k _ _ qb _ _ qa _ _ qd qj _ ?side1 ?side2 ?side3 ?side4 ?side5 ?side6 A14.out).mono ?_);(case side1=>repeat(first|exact(Ok qp.out).2.2|(with_reducible refine Oo ?_ _)|(with_reducible refine Op ?_ _)|(with_reducible refine Oj ?_)));(case side2=>exact(Ok qp.out).2.1);(case side3=>repeat(first|exact(Ok qn.out).2.2|(with_reducible refine Oo ?_ _)|(with_reducible refine Op ?_ _)|(with_reducible refine Oj ?_)));(case side4=>exact(Ok qn.out).2.1);(case side5=>repeat(first|exact(Oq qo.out).2.2|(with_reducible refine Oo ?_ _)|(with_reducible refine Op ?_ _)|(with_reducible refine Oj ?_)));(case side6=>exact(Oq qo.out).2.1);rintro e w22 ⟨v364,rfl,yi,hb⟩;refine⟨_,rfl,?_⟩;have qs:=Oa (On (by(with_reducible repeat(first|apply Od|apply Oc|apply Ob));exact qn.out) hb);have qt:=Oa (Kd.N_elder' (by(with_reducible repeat(first|apply Om|apply Ol|apply Of));exact qo.out) (Os yi) hb);have qu:=Oa (On (by(with_reducible repeat(first|apply Od|apply Oc|apply Ob));exact qp.out) hb);have qv:=Oa (On (by(with_reducible repeat(first|apply Od|apply Oc|apply Ob));exact yr.out) hb);have yd:=Oa (Kd.R_lower yi (Ov (by repeat(first|(with_reducible first|exact HB.out|apply Oi|apply Oe|apply Oh)|exact HB.out))));have ym:=Oa (below_step (by repeat(first|(with_reducible first|exact HB.out|apply Oi|apply Oe|apply Oh)|exact HB.out)) hb);clear qn;clear qo;clear qp;clear yr;clear HB;have qn:=qs;have qo:=qt;have qp:=qu;have yr:=qv;have yq:=yd;have HB:=ym;clear qs qt qu qv yd ym;(try clear hb);(try clear hb2);(try clear hk);(try clear hi);(try clear yi)))
    (try simp only [Act.put,List.setIfInBounds_toArray,List.set_cons_zero,List.set_cons_succ])
    go_cut [66] (fun v66 wc=>∃ (kq:Nat) (x66_14:Bool),v66=.bool x66_14∧Aside0 (laws_FnPacked.j0 kq l0 qa qd qb qj x66_14=some true)∧Aside0 (kq≤k)∧Aside0 (Kd.R Kd.string 9 wc w.heap.size (fun _=>True) (.slice ya qa.length yc) qa)∧Aside0 (Kd.N (Kd.slice 5 (Kd.int .u8)) 22 wc w.heap.size (fun k_=>some k_≠((.slice ya qa.length yc):Value).ownBlock∧some k_≠((.slice qx qb.length qz):Value).ownBlock∧some k_≠(v364:Value).ownBlock) (.slice Ao18 qd.length zb) qd)∧Aside0 (Kd.R k71 71 wc w.heap.size (fun _=>True) (.slice qx qb.length qz) qb)∧Aside0 (Kd.R (Kd.int .i64) 2 wc w.heap.size (fun _=>True) v364 qj)∧Aside0 (Below w.heap.size w wc))
    case first=>
     have H:=HC15.out
     clear HC15
     replace H:=Option.bind_eq_some_iff.mp H
     obtain⟨yt,A230,H⟩:=H
     replace H:(if yt=true then (if (qj.length:Int)=(qb.length:Int) then (laws_FnPacked.j0 k l0 qa qd qb qj ((qb.length:Int) != (qa.length:Int))) else (laws_FnPacked.j0 k l0 qa qd qb qj true)) else (laws_FnPacked.j0 k l0 qa qd qb qj true))=some true:=H
     have A23:=Oa A230
     clear A230
     by_cases c24:yt=true
     ·subst c24
      have H1:(if (qj.length:Int)=(qb.length:Int) then (laws_FnPacked.j0 k l0 qa qd qb qj ((qb.length:Int) != (qa.length:Int))) else (laws_FnPacked.j0 k l0 qa qd qb qj true))=some true:=by rw [if_pos rfl] at H;exact H
      clear H
      have H:=H1
      clear H1
      by_cases c25:(qj.length:Int)=(qb.length:Int)
      ·rw [if_pos c25] at H
       have zd:((qj.length:Int) == (qb.length:Int))=true:=beq_iff_eq.mpr c25
       have c25b1:((qj.length:Int) != (qb.length:Int))=false:=bne_eq_false_iff_eq.mpr c25
       have c25b2:(qj.length == qb.length)=true:=by first|simpa using c25|(simp at c25 ⊢;omega)
       clear c25
       (first|rw [zd]|(simp only [i64_w,i32_w];rw [zd])|skip)
       have H':=Oa H
       clear H
       go_wp2_with (first|((with_reducible refine Ot (f:=27) rfl ?_);refine goesL_ (some 51) rfl rfl Try.func27 (by kernel_rfl) rfl #[.slice qx qb.length qz] rfl (by(try simp only [List.map_toArray,List.map_cons,List.map_nil]);first|done|rfl|(simp only [List.length_drop,List.length_take];rfl)) ?_;(with_reducible refine(impl_PackOk.calls k _ _ qb true _ ?side1 ?side2 A23.out).mono ?_);(case side1=>repeat(first|exact(Ok qp.out).2.2|(with_reducible refine Oo ?_ _)|(with_reducible refine Op ?_ _)|(with_reducible refine Oj ?_)));(case side2=>exact(Ok qp.out).2.1);rintro e w26 ⟨rfl,hb⟩;refine⟨_,rfl,?_⟩;have qs:=Oa (On (by(with_reducible repeat(first|apply Od|apply Oc|apply Ob));exact qn.out) hb);have qt:=Oa (Kd.N_below (by(with_reducible repeat(first|apply Om|apply Ol|apply Of));exact qo.out) hb);have qu:=Oa (On (by(with_reducible repeat(first|apply Od|apply Oc|apply Ob));exact qp.out) hb);have qv:=Oa (On (by(with_reducible repeat(first|apply Od|apply Oc|apply Ob));exact yr.out) hb);have yd:=Oa (On (by(with_reducible repeat(first|apply Od|apply Oc|apply Ob));exact yq.out) hb);have ym:=Oa (below_step (by repeat(first|(with_reducible first|exact HB.out|apply Oi|apply Oe|apply Oh)|exact HB.out)) hb);clear qn;clear qo;clear qp;clear yr;clear yq;clear HB;have qn:=qs;have qo:=qt;have qp:=qu;have yr:=qv;have yq:=yd;have HB:=ym;clear qs qt qu qv yd ym;(try clear hb);(try clear hb2);(try clear hk);(try clear hi);obtain⟨Ao27,co27,eo27⟩:=Ou yq.out;subst eo27))
       go_meet
       case rel=>exact⟨_,(((qb.length:Int) != (qa.length:Int))),(by first|rfl|(simp;done)|(simp [*];done)),H',⟨by first|omega|exact Nat.le_refl _⟩,⟨by(with_reducible repeat(first|apply Od|apply Oc|apply Ob));exact qn.out⟩,⟨by(with_reducible repeat(first|apply Om|apply Ol|apply Of));exact Kd.N_mono qo.out (fun _ hk=>⟨hk.1.1.1,⟨hk.1.1.2,hk.2⟩⟩)⟩,⟨by(with_reducible repeat(first|apply Od|apply Oc|apply Ob));exact Kd.R_mono qp.out (fun _ hk=>trivial)⟩,⟨by(with_reducible repeat(first|apply Od|apply Oc|apply Ob));exact yq.out⟩,⟨by repeat(first|(with_reducible first|exact HB.out|apply Oi|apply Oe|apply Oh)|exact HB.out)⟩⟩
      ·rw [if_neg c25] at H
       have zd:((qj.length:Int) == (qb.length:Int))=false:=beq_eq_false_iff_ne.mpr c25
       have c25b1:((qj.length:Int) != (qb.length:Int))=true:=bne_iff_ne.mpr c25
       have c25b2:(qj.length == qb.length)=false:=by first|simpa using c25|(simp at c25 ⊢;omega)
       (first|rw [zd]|(simp only [i64_w,i32_w];rw [zd])|skip)
       have H':=Oa H
       clear H
       go_wp2_with (first|((with_reducible refine Ot (f:=27) rfl ?_);refine goesL_ (some 51) rfl rfl Try.func27 (by kernel_rfl) rfl #[.slice qx qb.length qz] rfl (by(try simp only [List.map_toArray,List.map_cons,List.map_nil]);first|done|rfl|(simp only [List.length_drop,List.length_take];rfl)) ?_;(with_reducible refine(impl_PackOk.calls k _ _ qb true _ ?side1 ?side2 A23.out).mono ?_);(case side1=>repeat(first|exact(Ok qp.out).2.2|(with_reducible refine Oo ?_ _)|(with_reducible refine Op ?_ _)|(with_reducible refine Oj ?_)));(case side2=>exact(Ok qp.out).2.1);rintro e w28 ⟨rfl,hb⟩;refine⟨_,rfl,?_⟩;have qs:=Oa (On (by(with_reducible repeat(first|apply Od|apply Oc|apply Ob));exact qn.out) hb);have qt:=Oa (Kd.N_below (by(with_reducible repeat(first|apply Om|apply Ol|apply Of));exact qo.out) hb);have qu:=Oa (On (by(with_reducible repeat(first|apply Od|apply Oc|apply Ob));exact qp.out) hb);have qv:=Oa (On (by(with_reducible repeat(first|apply Od|apply Oc|apply Ob));exact yr.out) hb);have yd:=Oa (On (by(with_reducible repeat(first|apply Od|apply Oc|apply Ob));exact yq.out) hb);have ym:=Oa (below_step (by repeat(first|(with_reducible first|exact HB.out|apply Oi|apply Oe|apply Oh)|exact HB.out)) hb);clear qn;clear qo;clear qp;clear yr;clear yq;clear HB;have qn:=qs;have qo:=qt;have qp:=qu;have yr:=qv;have yq:=yd;have HB:=ym;clear qs qt qu qv yd ym;(try clear hb);(try clear hb2);(try clear hk);(try clear hi);obtain⟨Ao29,co29,eo29⟩:=Ou yq.out;subst eo29))
       go_meet
       case rel=>exact⟨_,(true),(by first|rfl|(simp;done)|(simp [*];done)),H',⟨by first|omega|exact Nat.le_refl _⟩,⟨by(with_reducible repeat(first|apply Od|apply Oc|apply Ob));exact qn.out⟩,⟨by(with_reducible repeat(first|apply Om|apply Ol|apply Of));exact Kd.N_mono qo.out (fun _ hk=>⟨hk.1.1.1,⟨hk.1.1.2,hk.2⟩⟩)⟩,⟨by(with_reducible repeat(first|apply Od|apply Oc|apply Ob));exact Kd.R_mono qp.out (fun _ hk=>trivial)⟩,⟨by(with_reducible repeat(first|apply Od|apply Oc|apply Ob));exact yq.out⟩,⟨by repeat(first|(with_reducible first|exact HB.out|apply Oi|apply Oe|apply Oh)|exact HB.out)⟩⟩
     ·replace c24:=Bool.eq_false_iff.mpr c24
      subst c24
      have H1:(laws_FnPacked.j0 k l0 qa qd qb qj true)=some true:=by rw [if_neg (show ¬ (false=true) by decide)] at H;exact H
      clear H
      have H:=H1
      clear H1
      have H':=Oa H
      clear H
      go_wp2_with (first|((with_reducible refine Ot (f:=27) rfl ?_);refine goesL_ (some 51) rfl rfl Try.func27 (by kernel_rfl) rfl #[.slice qx qb.length qz] rfl (by(try simp only [List.map_toArray,List.map_cons,List.map_nil]);first|done|rfl|(simp only [List.length_drop,List.length_take];rfl)) ?_;(with_reducible refine(impl_PackOk.calls k _ _ qb false _ ?side1 ?side2 A23.out).mono ?_);(case side1=>repeat(first|exact(Ok qp.out).2.2|(with_reducible refine Oo ?_ _)|(with_reducible refine Op ?_ _)|(with_reducible refine Oj ?_)));(case side2=>exact(Ok qp.out).2.1);rintro e w30 ⟨rfl,hb⟩;refine⟨_,rfl,?_⟩;have qs:=Oa (On (by(with_reducible repeat(first|apply Od|apply Oc|apply Ob));exact qn.out) hb);have qt:=Oa (Kd.N_below (by(with_reducible repeat(first|apply Om|apply Ol|apply Of));exact qo.out) hb);have qu:=Oa (On (by(with_reducible repeat(first|apply Od|apply Oc|apply Ob));exact qp.out) hb);have qv:=Oa (On (by(with_reducible repeat(first|apply Od|apply Oc|apply Ob));exact yr.out) hb);have yd:=Oa (On (by(with_reducible repeat(first|apply Od|apply Oc|apply Ob));exact yq.out) hb);have ym:=Oa (below_step (by repeat(first|(with_reducible first|exact HB.out|apply Oi|apply Oe|apply Oh)|exact HB.out)) hb);clear qn;clear qo;clear qp;clear yr;clear yq;clear HB;have qn:=qs;have qo:=qt;have qp:=qu;have yr:=qv;have yq:=yd;have HB:=ym;clear qs qt qu qv yd ym;(try clear hb);(try clear hb2);(try clear hk);(try clear hi)))
      go_meet
      case rel=>exact⟨_,(true),(by first|rfl|(simp;done)|(simp [*];done)),H',⟨by first|omega|exact Nat.le_refl _⟩,⟨by(with_reducible repeat(first|apply Od|apply Oc|apply Ob));exact qn.out⟩,⟨by(with_reducible repeat(first|apply Om|apply Ol|apply Of));exact Kd.N_mono qo.out (fun _ hk=>⟨hk.1.1.1,⟨hk.1.1.2,hk.2⟩⟩)⟩,⟨by(with_reducible repeat(first|apply Od|apply Oc|apply Ob));exact Kd.R_mono qp.out (fun _ hk=>trivial)⟩,⟨by(with_reducible repeat(first|apply Od|apply Oc|apply Ob));exact yq.out⟩,⟨by repeat(first|(with_reducible first|exact HB.out|apply Oi|apply Oe|apply Oh)|exact HB.out)⟩⟩
    case rest=>
     clear HC15
     try clear c1
     try clear c2
     try clear p2
     try clear c3
     try clear c4
     try clear c5
     try clear c7
     try clear c7b0
     try clear c7b1
     try clear c7b2
     try clear c11
     try clear c13
     try clear c24
     try clear c25
     try clear zd
     try clear c25b1
     try clear c25b2
     try clear c27
     try clear c29
     obtain⟨kq,x66_14,rfl,HA,zl,qg,qm,qh,HO_9,HB⟩:=hcut
     cases kq with
     | zero => exact absurd HA.out (by simp [laws_FnPacked.j0])
     | succ kj14 =>
      have H:=HA.out
      clear HA
      simp only [laws_FnPacked.j0] at H
      by_cases c31:x66_14=true
      ·subst c31
       have H1:(some false)=some true:=by rw [if_pos rfl] at H;exact H
       clear H
       have H:=H1
       clear H1
       exact absurd (Option.some.inj H) Bool.false_ne_true
      ·replace c31:=Bool.eq_false_iff.mpr c31
       subst c31
       have H1:(laws_FnPacked.l0 kj14 l0 qa qd qb qj 0)=some true:=by rw [if_neg (show ¬ (false=true) by decide)] at H;exact H
       clear H
       have H:=H1
       clear H1
       have H':=Oa H
       clear H
       go_wp2
       go_loopg [10] kj14 (fun kq v10 w'=>∃ (yl:Int),v10=.int .i64 yl∧Aside0 (laws_FnPacked.l0 kq l0 qa qd qb qj yl=some true)∧Aside0 (kq≤kj14)∧Aside0 (Kd.R Kd.string 9 w' w.heap.size (fun _=>True) (.slice ya qa.length yc) qa)∧Aside0 (Kd.N (Kd.slice 5 (Kd.int .u8)) 22 w' w.heap.size (fun k_=>some k_≠((.slice ya qa.length yc):Value).ownBlock∧some k_≠((.slice qx qb.length qz):Value).ownBlock∧some k_≠(v364:Value).ownBlock) (.slice Ao18 qd.length zb) qd)∧Aside0 (Kd.R k71 71 w' w.heap.size (fun _=>True) (.slice qx qb.length qz) qb)∧Aside0 (Kd.R (Kd.int .i64) 2 w' w.heap.size (fun _=>True) v364 qj)∧Aside0 (Below w.heap.size w w'))
       case atStart=>exact⟨(0),(by first|rfl|(simp;done)|(simp [*];done)),H',⟨Nat.le_refl _⟩,⟨by(with_reducible repeat(first|apply Od|apply Oc|apply Ob));exact qg.out⟩,⟨by(with_reducible repeat(first|apply Om|apply Ol|apply Of));exact qm.out⟩,⟨by(with_reducible repeat(first|apply Od|apply Oc|apply Ob));exact qh.out⟩,⟨by(with_reducible repeat(first|apply Od|apply Oc|apply Ob));exact HO_9.out⟩,⟨by repeat(first|(with_reducible first|exact HB.out|apply Oi|apply Oe|apply Oh)|exact HB.out)⟩⟩
       case round=>
        clear H'
        try clear c1
        try clear c2
        try clear p2
        try clear c3
        try clear c4
        try clear c5
        try clear c7
        try clear c7b0
        try clear c7b1
        try clear c7b2
        try clear c11
        try clear c13
        try clear c24
        try clear c25
        try clear zd
        try clear c25b1
        try clear c25b2
        try clear c27
        try clear c29
        try clear c31
        try clear p2
        obtain⟨yl,rfl,HA,HK2,qg,qm,qh,HO_9,HB⟩:=hrel
        cases gk with
        | zero => exact absurd HA.out (by simp [laws_FnPacked.l0])
        | succ k2 =>
         have H:=HA.out
         clear HA
         simp only [laws_FnPacked.l0] at H
         by_cases c32:yl < (qj.length:Int)
         ·rw [if_pos c32] at H
          have c32b0:decide (yl < (qj.length:Int))=true:=decide_eq_true c32
          clear c32
          by_cases c33:0≤yl
          ·rw [if_pos c33] at H
           have c33b0:decide (0≤yl)=true:=decide_eq_true c33
           clear c33
           by_cases c34:(rd qj yl)=0
           ·rw [if_pos c34] at H
            have c34b0:((rd qj yl) == 0)=true:=beq_iff_eq.mpr c34
            have c34b1:((rd qj yl) != 0)=false:=bne_eq_false_iff_eq.mpr c34
            clear c34
            have H':=Oa H
            clear H
            obtain⟨Ao35,co35,eo35⟩:=Ou HO_9.out
            subst eo35
            have p367:0≤(yl:Int):=of_decide_eq_true (by first|(with_reducible assumption)|assumption)
            have q367:yl < (qj.length:Int):=of_decide_eq_true (by first|(with_reducible assumption)|assumption)
            obtain⟨ad367,e367,hx367_0⟩:=Kd.at_int (Ok HO_9.out).2.2 yl p367 q367
            cases e367
            replace p367:=eq_true p367
            replace q367:=eq_true q367
            go_wp2
            go_roundg k2
            case measure=>have:=zl.out;have:=HK2.out;omega
            case rel=>exact⟨(wrap64 (yl+1)),(by first|rfl|(simp;done)|(simp [*];done)),H',⟨by have:=zl.out;have:=HK2.out;omega⟩,⟨by(with_reducible repeat(first|apply Od|apply Oc|apply Ob));exact qg.out⟩,⟨by(with_reducible repeat(first|apply Om|apply Ol|apply Of));exact qm.out⟩,⟨by(with_reducible repeat(first|apply Od|apply Oc|apply Ob));exact qh.out⟩,⟨by(with_reducible repeat(first|apply Od|apply Oc|apply Ob));exact HO_9.out⟩,⟨by repeat(first|(with_reducible first|exact HB.out|apply Oi|apply Oe|apply Oh)|exact HB.out)⟩⟩
           ·rw [if_neg c34] at H
            have c34b0:((rd qj yl) == 0)=false:=beq_eq_false_iff_ne.mpr c34
            have c34b1:((rd qj yl) != 0)=true:=bne_iff_ne.mpr c34
            exact absurd (Option.some.inj H) Bool.false_ne_true
          ·rw [if_neg c33] at H
           exact absurd H (by simp)
         ·rw [if_neg c32] at H
          have c32b0:decide (yl < (qj.length:Int))=false:=decide_eq_false c32
          clear c32
          replace H:=Option.bind_eq_some_iff.mp H
          obtain⟨⟨t368,t369⟩,A370,H⟩:=H
          replace H:(if (wrap64 ((t368.length:Int)+(t369.length:Int)))=0 then (if (qa.length:Int)=0 then (laws_FnPacked.j2 k2 l0 qa qd qb true) else (if 0 < (qd.length:Int) then (laws_FnPacked.j2 k2 l0 qa qd qb (((rd_L5 qd 0).length:Int) == 0)) else (none))) else (some false))=some true:=H
          have A37:=Oa A370
          clear A370
          by_cases c38:(wrap64 ((t368.length:Int)+(t369.length:Int)))=0
          ·rw [if_pos c38] at H
           have c38b0:((wrap64 ((t368.length:Int)+(t369.length:Int))) == 0)=true:=beq_iff_eq.mpr c38
           have c38b1:((wrap64 ((t368.length:Int)+(t369.length:Int))) != 0)=false:=bne_eq_false_iff_eq.mpr c38
           clear c38
           have HC39:=Oa H
           clear H
           obtain⟨Ao40,co40,eo40⟩:=Ou HO_9.out
           subst eo40
           go_upto_region 21 with (first|((with_reducible refine Ot (f:=32) rfl ?_);refine goesL_ (some 81) rfl rfl Try.func32 (by kernel_rfl) rfl #[.slice qx qb.length qz,.slice qx qb.length qz] rfl (by(try simp only [List.map_toArray,List.map_cons,List.map_nil]);first|done|rfl|(simp only [List.length_drop,List.length_take];rfl)) ?_;(with_reducible refine(impl_Update.calls k2 _ _ qb _ _ qb t368 t369 _ ?side1 ?side2 ?side3 ?side4 A37.out).mono ?_);(case side1=>repeat(first|exact(Ok qh.out).2.2|(with_reducible refine Oo ?_ _)|(with_reducible refine Op ?_ _)|(with_reducible refine Oj ?_)));(case side2=>exact(Ok qh.out).2.1);(case side3=>repeat(first|exact(Ok qh.out).2.2|(with_reducible refine Oo ?_ _)|(with_reducible refine Op ?_ _)|(with_reducible refine Oj ?_)));(case side4=>exact(Ok qh.out).2.1);rintro e w41 ⟨v370,v372,rfl,yi,ho1,hb⟩;refine⟨_,rfl,?_⟩;have qs:=Oa (Kd.R_mono (Kd.R_told (Kd.R_told (Kd.R_old (by(with_reducible repeat(first|apply Od|apply Oc|apply Ob));exact qg.out) hb) (Os yi)) (Os ho1)) (fun _ h_=>h_.1));have qt:=Oa (Kd.N_mono (Kd.N_told (Kd.N_told (Kd.N_old (by(with_reducible repeat(first|apply Om|apply Ol|apply Of));exact qm.out) hb) (Os yi)) (Os ho1)) (fun _ h_=>h_.1));have qu:=Oa (On (by(with_reducible repeat(first|apply Od|apply Oc|apply Ob));exact qh.out) hb);have qv:=Oa (On (by(with_reducible repeat(first|apply Od|apply Oc|apply Ob));exact HO_9.out) hb);have yd:=Oa (Kd.R_lower (Kd.R_new' yi (Kd.R_lt (by(with_reducible repeat(first|apply Od|apply Oc|apply Ob));exact qg.out))) (Ov (by repeat(first|(with_reducible first|exact HB.out|apply Oi|apply Oe|apply Oh)|exact HB.out))));have ym:=Oa (Kd.R_lower (Kd.R_new' ho1 (Kd.R_lt (by(with_reducible repeat(first|apply Od|apply Oc|apply Ob));exact qg.out))) (Ov (by repeat(first|(with_reducible first|exact HB.out|apply Oi|apply Oe|apply Oh)|exact HB.out))));have yv:=Oa (below_step (by repeat(first|(with_reducible first|exact HB.out|apply Oi|apply Oe|apply Oh)|exact HB.out)) hb);clear qg;clear qm;clear qh;clear HO_9;clear HB;have qg:=qs;have qm:=qt;have qh:=qu;have HO_9:=qv;have HO371:=yd;have HO373:=ym;have HB:=yv;clear qs qt qu qv yd ym yv;(try clear hb);(try clear hb2);(try clear hk);(try clear hi);(try clear yi);(try clear ho1);obtain⟨Ao42,co42,eo42⟩:=Ou HO371.out;subst eo42;obtain⟨Ao43,co43,eo43⟩:=Ou HO373.out;subst eo43))
           (try simp only [Act.put,List.setIfInBounds_toArray,List.set_cons_zero,List.set_cons_succ])
           go_cut [99] (fun v99 wc=>∃ (kq:Nat) (x99_38:Bool),v99=.bool x99_38∧Aside0 (laws_FnPacked.j2 kq l0 qa qd qb x99_38=some true)∧Aside0 (kq≤k2)∧Aside0 (Kd.R Kd.string 9 wc w.heap.size (fun _=>True) (.slice ya qa.length yc) qa)∧Aside0 (Kd.N (Kd.slice 5 (Kd.int .u8)) 22 wc w.heap.size (fun k_=>some k_≠((.slice ya qa.length yc):Value).ownBlock∧some k_≠((.slice qx qb.length qz):Value).ownBlock) (.slice Ao18 qd.length zb) qd)∧Aside0 (Kd.R k71 71 wc w.heap.size (fun _=>True) (.slice qx qb.length qz) qb)∧Aside0 (Below w.heap.size w wc))
           case first=>
            have H:=HC39.out
            clear HC39
            by_cases c44:(qa.length:Int)=0
            ·rw [if_pos c44] at H
             have zs:((qa.length:Int) == 0)=true:=beq_iff_eq.mpr c44
             have c44b1:((qa.length:Int) != 0)=false:=bne_eq_false_iff_eq.mpr c44
             clear c44
             (first|rw [zs]|(simp only [i64_w,i32_w];rw [zs])|skip)
             have H':=Oa H
             clear H
             go_wp2
             go_meet
             case rel=>exact⟨_,(true),(by first|rfl|(simp;done)|(simp [*];done)),H',⟨by have:=zl.out;have:=HK2.out;first|omega|exact Nat.le_refl _⟩,⟨by(with_reducible repeat(first|apply Od|apply Oc|apply Ob));exact Kd.R_mono qg.out (fun _ hk=>trivial)⟩,⟨by(with_reducible repeat(first|apply Om|apply Ol|apply Of));exact Kd.N_mono qm.out (fun _ hk=>⟨hk.1.1.1,hk.1.1.2.1⟩)⟩,⟨by(with_reducible repeat(first|apply Od|apply Oc|apply Ob));exact qh.out⟩,⟨by repeat(first|(with_reducible first|exact HB.out|apply Oi|apply Oe|apply Oh)|exact HB.out)⟩⟩
            ·rw [if_neg c44] at H
             have zs:((qa.length:Int) == 0)=false:=beq_eq_false_iff_ne.mpr c44
             have c44b1:((qa.length:Int) != 0)=true:=bne_iff_ne.mpr c44
             have c44b2 : ¬ (qa = []):=fun h_=>c44 (by rw [h_];rfl)
             (first|rw [zs]|(simp only [i64_w,i32_w];rw [zs])|skip)
             by_cases c45:0 < (qd.length:Int)
             ·rw [if_pos c45] at H
              have c45b0:decide (0 < (qd.length:Int))=true:=decide_eq_true c45
              have c45b1:decide (0 < qd.length)=true:=decide_eq_true (by omega)
              clear c45
              have H':=Oa H
              clear H
              have p374:0≤(0:Int):=(by omega)
              have q374:0 < (qd.length:Int):=of_decide_eq_true (by first|(with_reducible assumption)|assumption)
              obtain⟨ad374,A374_0,c374_0,e374,zg,hl374_0,hi374_0⟩:=at_L5 (Oq qm.out).2.2 0 p374 q374
              cases e374
              obtain⟨ce374,hce374,hMe374,hcc374⟩:=Kd.N_get qm.out [] 0 p374 (by first|exact q374|exact of_decide_eq_true (by first|(with_reducible assumption)|assumption)|(have e_:=(Oq qm.out).1;omega))
              obtain⟨ua374_0,uc374_0,rfl,ul374_0,ge374_0⟩:=Kd.FK_slice_open hMe374
              have ze:=hcc374 0 _ rfl
              rw [Nat.add_zero,show((Kd.slice 5 (Kd.int .u8))).sz=1 from rfl,Nat.mul_one] at ze
              replace ze:=Option.some.inj (ze.symm.trans zg)
              injection ze with hva_ hvn_ hvc_
              rw [hva_] at ge374_0
              rw [hvc_] at ul374_0
              have HL374_0:=Oa (show Kd.V (Kd.int .u8) 5 _ w.heap.size _ _ (rd_L5 qd 0) from Kd.V_mk ul374_0 ge374_0)
              clear hva_ hvn_ hvc_ ge374_0 ul374_0
              clear hcc374 hce374
              have qi374:(0 < qd.length)=True:=eq_true (by omega)
              (try rw [show((0:Int)).toNat=0 from rfl] at zg)
              (try rw [Addr.add_zero'] at zg)
              have HR374_0:=Oa hi374_0
              have HC374_0:=Oa hl374_0
              clear hi374_0 hl374_0
              replace p374:=eq_true p374
              replace q374:=eq_true q374
              go_wp2
              go_meet
              case rel=>exact⟨_,((((rd_L5 qd 0).length:Int) == 0)),(by first|rfl|(simp;done)|(simp [*];done)),H',⟨by have:=zl.out;have:=HK2.out;first|omega|exact Nat.le_refl _⟩,⟨by(with_reducible repeat(first|apply Od|apply Oc|apply Ob));exact Kd.R_mono qg.out (fun _ hk=>trivial)⟩,⟨by(with_reducible repeat(first|apply Om|apply Ol|apply Of));exact Kd.N_mono qm.out (fun _ hk=>⟨hk.1.1.1,hk.1.1.2.1⟩)⟩,⟨by(with_reducible repeat(first|apply Od|apply Oc|apply Ob));exact qh.out⟩,⟨by repeat(first|(with_reducible first|exact HB.out|apply Oi|apply Oe|apply Oh)|exact HB.out)⟩⟩
             ·rw [if_neg c45] at H
              exact absurd H (by simp)
           case rest=>
            clear HC39
            try clear c1
            try clear c2
            try clear p2
            try clear c3
            try clear p3
            try clear q3
            try clear hx3
            try clear qi3
            try clear c4
            try clear c5
            try clear p6
            try clear c7
            try clear c7b0
            try clear c7b1
            try clear c7b2
            try clear c11
            try clear c13
            try clear c24
            try clear c25
            try clear zd
            try clear c25b1
            try clear c25b2
            try clear c27
            try clear c29
            try clear c31
            try clear c32
            try clear c32b0
            try clear c33
            try clear c33b0
            try clear c34
            try clear c34b0
            try clear c34b1
            try clear p36
            try clear q36
            try clear hx36
            try clear c37
            try clear p37
            try clear q37
            try clear hx37
            try clear qi37
            try clear c38
            try clear c38b0
            try clear c38b1
            try clear c43
            try clear c44
            try clear zs
            try clear c44b1
            try clear c44b2
            try clear c45
            try clear c45b0
            try clear c45b1
            try clear hx367_0
            try clear zg
            try clear p2
            try clear p367
            try clear p374
            try clear q367
            try clear q374
            obtain⟨kq,x99_38,rfl,HA,HJ38,qg,qm,qh,HB⟩:=hcut
            cases kq with
            | zero => exact absurd HA.out (by simp [laws_FnPacked.j2])
            | succ kj38 =>
             have H:=HA.out
             clear HA
             simp only [laws_FnPacked.j2] at H
             by_cases c46:x99_38=true
             ·subst c46
              have H1:(some true)=some true:=rfl
              clear H
              have H:=H1
              clear H1
              clear H
              go_wp2
              go_ret
              exact⟨by first|rfl|(simp [errW_none,errW_some] <;> rfl)|(simp [*,errW_none,errW_some] <;> rfl),by repeat(first|(with_reducible first|exact HB.out|apply Oi|apply Oe|apply Oh)|exact HB.out)⟩
             ·replace c46:=Bool.eq_false_iff.mpr c46
              subst c46
              have H1:((some (([]:List (List Int)):List (List Int))).bind fun zr=>(if zr.length+qd.length < 5864062014805 then ((some (zr ++ qd:List (List Int))).bind fun qq=>((some (([]:List Int):List Int)).bind fun yu=>(if 0 < (qd.length:Int) then (if yu.length+(rd_L5 qd 0).length < 140737488355328 then ((some (yu ++ (rd_L5 qd 0):List Int)).bind fun qk=>((laws_pick.f kj38 l0 (qk.length:Int)).bind fun qf=>(if 0≤qf then (if qf < (qk.length:Int) then (if 0 < (qq.length:Int) then ((some (qq.set (0:Int).toNat (qk.set (qf:Int).toNat (Go.bits .xor .u8 (rd qk qf) 16)):List (List Int))).bind fun qw=>((impl_Verify.f kj38 qb qa qw).bind fun ql=>((impl_Pack.f kj38 qa qw).bind fun bt395=>((impl_Update.f kj38 qb bt395.1).bind fun bt399=>(if (bt399.1.length:Int)=1 then (if 0 < (bt399.1.length:Int) then (if 0 < (qa.length:Int) then (if (rdOf ByteArray.empty bt399.1 0).toList=(rdOf ByteArray.empty qa 0).toList then (laws_FnPacked.j3 kj38 qa qb ql ((bt399.2.length:Int) != 0)) else (laws_FnPacked.j3 kj38 qa qb ql true)) else (none)) else (none)) else (laws_FnPacked.j3 kj38 qa qb ql true)))))) else (none)) else (none)) else (none)))) else (none)) else (none)))) else (none)))=some true:=by rw [if_neg (show ¬ (false=true) by decide)] at H;exact H
              clear H
              have H:=H1
              clear H1
              obtain⟨zr,hy375⟩:∃ y_:List (List Int),y_=(([]:List (List Int))):=⟨_,rfl⟩
              replace H:(if zr.length+qd.length < 5864062014805 then ((some (zr ++ qd:List (List Int))).bind fun qq=>((some (([]:List Int):List Int)).bind fun yu=>(if 0 < (qd.length:Int) then (if yu.length+(rd_L5 qd 0).length < 140737488355328 then ((some (yu ++ (rd_L5 qd 0):List Int)).bind fun qk=>((laws_pick.f kj38 l0 (qk.length:Int)).bind fun qf=>(if 0≤qf then (if qf < (qk.length:Int) then (if 0 < (qq.length:Int) then ((some (qq.set (0:Int).toNat (qk.set (qf:Int).toNat (Go.bits .xor .u8 (rd qk qf) 16)):List (List Int))).bind fun qw=>((impl_Verify.f kj38 qb qa qw).bind fun ql=>((impl_Pack.f kj38 qa qw).bind fun bt395=>((impl_Update.f kj38 qb bt395.1).bind fun bt399=>(if (bt399.1.length:Int)=1 then (if 0 < (bt399.1.length:Int) then (if 0 < (qa.length:Int) then (if (rdOf ByteArray.empty bt399.1 0).toList=(rdOf ByteArray.empty qa 0).toList then (laws_FnPacked.j3 kj38 qa qb ql ((bt399.2.length:Int) != 0)) else (laws_FnPacked.j3 kj38 qa qb ql true)) else (none)) else (none)) else (laws_FnPacked.j3 kj38 qa qb ql true)))))) else (none)) else (none)) else (none)))) else (none)) else (none)))) else (none))=some true:=by first|(rw [hy375];with_reducible exact H)|(have zk:=(Option.bind_some _ _).symm.trans H;rw [hy375];with_reducible exact zk)|(have zk:=(Option.bind_some _ _).symm.trans H;with_reducible exact zk)|with_reducible exact H|(rw [hy375];exact H)|exact H
              have Ny375:=Oa hy375
              clear hy375
              by_cases c47:zr.length+qd.length < 5864062014805
              ·rw [if_pos c47] at H
               have LMc47:=Oa c47
               clear c47
               obtain⟨qq,hy378⟩:∃ y_:List (List Int),y_=(zr ++ qd):=⟨_,rfl⟩
               replace H:((some (([]:List Int):List Int)).bind fun yu=>(if 0 < (qd.length:Int) then (if yu.length+(rd_L5 qd 0).length < 140737488355328 then ((some (yu ++ (rd_L5 qd 0):List Int)).bind fun qk=>((laws_pick.f kj38 l0 (qk.length:Int)).bind fun qf=>(if 0≤qf then (if qf < (qk.length:Int) then (if 0 < (qq.length:Int) then ((some (qq.set (0:Int).toNat (qk.set (qf:Int).toNat (Go.bits .xor .u8 (rd qk qf) 16)):List (List Int))).bind fun qw=>((impl_Verify.f kj38 qb qa qw).bind fun ql=>((impl_Pack.f kj38 qa qw).bind fun bt395=>((impl_Update.f kj38 qb bt395.1).bind fun bt399=>(if (bt399.1.length:Int)=1 then (if 0 < (bt399.1.length:Int) then (if 0 < (qa.length:Int) then (if (rdOf ByteArray.empty bt399.1 0).toList=(rdOf ByteArray.empty qa 0).toList then (laws_FnPacked.j3 kj38 qa qb ql ((bt399.2.length:Int) != 0)) else (laws_FnPacked.j3 kj38 qa qb ql true)) else (none)) else (none)) else (laws_FnPacked.j3 kj38 qa qb ql true)))))) else (none)) else (none)) else (none)))) else (none)) else (none)))=some true:=by first|(rw [hy378];with_reducible exact H)|(have zk:=(Option.bind_some _ _).symm.trans H;rw [hy378];with_reducible exact zk)|(have zk:=(Option.bind_some _ _).symm.trans H;with_reducible exact zk)|with_reducible exact H|(rw [hy378];exact H)|exact H
               have Ny378:=Oa hy378
               clear hy378
               obtain⟨yu,hy381⟩:∃ y_:List Int,y_=(([]:List Int)):=⟨_,rfl⟩
               replace H:(if 0 < (qd.length:Int) then (if yu.length+(rd_L5 qd 0).length < 140737488355328 then ((some (yu ++ (rd_L5 qd 0):List Int)).bind fun qk=>((laws_pick.f kj38 l0 (qk.length:Int)).bind fun qf=>(if 0≤qf then (if qf < (qk.length:Int) then (if 0 < (qq.length:Int) then ((some (qq.set (0:Int).toNat (qk.set (qf:Int).toNat (Go.bits .xor .u8 (rd qk qf) 16)):List (List Int))).bind fun qw=>((impl_Verify.f kj38 qb qa qw).bind fun ql=>((impl_Pack.f kj38 qa qw).bind fun bt395=>((impl_Update.f kj38 qb bt395.1).bind fun bt399=>(if (bt399.1.length:Int)=1 then (if 0 < (bt399.1.length:Int) then (if 0 < (qa.length:Int) then (if (rdOf ByteArray.empty bt399.1 0).toList=(rdOf ByteArray.empty qa 0).toList then (laws_FnPacked.j3 kj38 qa qb ql ((bt399.2.length:Int) != 0)) else (laws_FnPacked.j3 kj38 qa qb ql true)) else (none)) else (none)) else (laws_FnPacked.j3 kj38 qa qb ql true)))))) else (none)) else (none)) else (none)))) else (none)) else (none))=some true:=by first|(rw [hy381];with_reducible exact H)|(have zk:=(Option.bind_some _ _).symm.trans H;rw [hy381];with_reducible exact zk)|(have zk:=(Option.bind_some _ _).symm.trans H;with_reducible exact zk)|with_reducible exact H|(rw [hy381];exact H)|exact H
               have Ny381:=Oa hy381
               clear hy381
               by_cases c48:0 < (qd.length:Int)
               ·rw [if_pos c48] at H
                have c48b0:decide (0 < (qd.length:Int))=true:=decide_eq_true c48
                have c48b1:decide (0 < qd.length)=true:=decide_eq_true (by omega)
                clear c48
                by_cases c49:yu.length+(rd_L5 qd 0).length < 140737488355328
                ·rw [if_pos c49] at H
                 have LMc49:=Oa c49
                 clear c49
                 obtain⟨qk,hy385⟩:∃ y_:List Int,y_=(yu ++ (rd_L5 qd 0)):=⟨_,rfl⟩
                 replace H:((laws_pick.f kj38 l0 (qk.length:Int)).bind fun qf=>(if 0≤qf then (if qf < (qk.length:Int) then (if 0 < (qq.length:Int) then ((some (qq.set (0:Int).toNat (qk.set (qf:Int).toNat (Go.bits .xor .u8 (rd qk qf) 16)):List (List Int))).bind fun qw=>((impl_Verify.f kj38 qb qa qw).bind fun ql=>((impl_Pack.f kj38 qa qw).bind fun bt395=>((impl_Update.f kj38 qb bt395.1).bind fun bt399=>(if (bt399.1.length:Int)=1 then (if 0 < (bt399.1.length:Int) then (if 0 < (qa.length:Int) then (if (rdOf ByteArray.empty bt399.1 0).toList=(rdOf ByteArray.empty qa 0).toList then (laws_FnPacked.j3 kj38 qa qb ql ((bt399.2.length:Int) != 0)) else (laws_FnPacked.j3 kj38 qa qb ql true)) else (none)) else (none)) else (laws_FnPacked.j3 kj38 qa qb ql true)))))) else (none)) else (none)) else (none)))=some true:=by first|(rw [hy385];with_reducible exact H)|(have zk:=(Option.bind_some _ _).symm.trans H;rw [hy385];with_reducible exact zk)|(have zk:=(Option.bind_some _ _).symm.trans H;with_reducible exact zk)|with_reducible exact H|(rw [hy385];exact H)|exact H
                 have Ny385:=Oa hy385
                 clear hy385
                 replace H:=Option.bind_eq_some_iff.mp H
                 obtain⟨qf,A500,H⟩:=H
                 replace H:(if 0≤qf then (if qf < (qk.length:Int) then (if 0 < (qq.length:Int) then ((some (qq.set (0:Int).toNat (qk.set (qf:Int).toNat (Go.bits .xor .u8 (rd qk qf) 16)):List (List Int))).bind fun qw=>((impl_Verify.f kj38 qb qa qw).bind fun ql=>((impl_Pack.f kj38 qa qw).bind fun bt395=>((impl_Update.f kj38 qb bt395.1).bind fun bt399=>(if (bt399.1.length:Int)=1 then (if 0 < (bt399.1.length:Int) then (if 0 < (qa.length:Int) then (if (rdOf ByteArray.empty bt399.1 0).toList=(rdOf ByteArray.empty qa 0).toList then (laws_FnPacked.j3 kj38 qa qb ql ((bt399.2.length:Int) != 0)) else (laws_FnPacked.j3 kj38 qa qb ql true)) else (none)) else (none)) else (laws_FnPacked.j3 kj38 qa qb ql true)))))) else (none)) else (none)) else (none))=some true:=H
                 have A50:=Oa A500
                 clear A500
                 by_cases c51:0≤qf
                 ·rw [if_pos c51] at H
                  have c51b0:decide (0≤qf)=true:=decide_eq_true c51
                  clear c51
                  by_cases c52:qf < (qk.length:Int)
                  ·rw [if_pos c52] at H
                   have c52b0:decide (qf < (qk.length:Int))=true:=decide_eq_true c52
                   clear c52
                   obtain⟨y390,hy390⟩:∃ y_:List Int,y_=(qk.set (qf:Int).toNat (Go.bits .xor .u8 (rd qk qf) 16)):=⟨_,rfl⟩
                   replace H:(if 0 < (qq.length:Int) then ((some (qq.set (0:Int).toNat y390:List (List Int))).bind fun qw=>((impl_Verify.f kj38 qb qa qw).bind fun ql=>((impl_Pack.f kj38 qa qw).bind fun bt395=>((impl_Update.f kj38 qb bt395.1).bind fun bt399=>(if (bt399.1.length:Int)=1 then (if 0 < (bt399.1.length:Int) then (if 0 < (qa.length:Int) then (if (rdOf ByteArray.empty bt399.1 0).toList=(rdOf ByteArray.empty qa 0).toList then (laws_FnPacked.j3 kj38 qa qb ql ((bt399.2.length:Int) != 0)) else (laws_FnPacked.j3 kj38 qa qb ql true)) else (none)) else (none)) else (laws_FnPacked.j3 kj38 qa qb ql true)))))) else (none))=some true:=by first|(rw [hy390];with_reducible exact H)|(have zk:=(Option.bind_some _ _).symm.trans H;rw [hy390];with_reducible exact zk)|(have zk:=(Option.bind_some _ _).symm.trans H;with_reducible exact zk)|with_reducible exact H|(rw [hy390];exact H)|exact H
                   have Ny390:=Oa hy390
                   clear hy390
                   by_cases c54:0 < (qq.length:Int)
                   ·rw [if_pos c54] at H
                    have c54b0:decide (0 < (qq.length:Int))=true:=decide_eq_true c54
                    have c54b1:decide (0 < qq.length)=true:=decide_eq_true (by omega)
                    clear c54
                    obtain⟨qw,hy391⟩:∃ y_:List (List Int),y_=(qq.set (0:Int).toNat y390):=⟨_,rfl⟩
                    replace H:((impl_Verify.f kj38 qb qa qw).bind fun ql=>((impl_Pack.f kj38 qa qw).bind fun bt395=>((impl_Update.f kj38 qb bt395.1).bind fun bt399=>(if (bt399.1.length:Int)=1 then (if 0 < (bt399.1.length:Int) then (if 0 < (qa.length:Int) then (if (rdOf ByteArray.empty bt399.1 0).toList=(rdOf ByteArray.empty qa 0).toList then (laws_FnPacked.j3 kj38 qa qb ql ((bt399.2.length:Int) != 0)) else (laws_FnPacked.j3 kj38 qa qb ql true)) else (none)) else (none)) else (laws_FnPacked.j3 kj38 qa qb ql true)))))=some true:=by first|(rw [hy391];with_reducible exact H)|(have zk:=(Option.bind_some _ _).symm.trans H;rw [hy391];with_reducible exact zk)|(have zk:=(Option.bind_some _ _).symm.trans H;with_reducible exact zk)|with_reducible exact H|(rw [hy391];exact H)|exact H
                    have Ny391:=Oa hy391
                    clear hy391
                    replace H:=Option.bind_eq_some_iff.mp H
                    obtain⟨ql,A560,H⟩:=H
                    replace H:((impl_Pack.f kj38 qa qw).bind fun bt395=>((impl_Update.f kj38 qb bt395.1).bind fun bt399=>(if (bt399.1.length:Int)=1 then (if 0 < (bt399.1.length:Int) then (if 0 < (qa.length:Int) then (if (rdOf ByteArray.empty bt399.1 0).toList=(rdOf ByteArray.empty qa 0).toList then (laws_FnPacked.j3 kj38 qa qb ql ((bt399.2.length:Int) != 0)) else (laws_FnPacked.j3 kj38 qa qb ql true)) else (none)) else (none)) else (laws_FnPacked.j3 kj38 qa qb ql true))))=some true:=H
                    have A56:=Oa A560
                    clear A560
                    replace H:=Option.bind_eq_some_iff.mp H
                    obtain⟨⟨t395,t396⟩,A570,H⟩:=H
                    replace H:((impl_Update.f kj38 qb t395).bind fun bt399=>(if (bt399.1.length:Int)=1 then (if 0 < (bt399.1.length:Int) then (if 0 < (qa.length:Int) then (if (rdOf ByteArray.empty bt399.1 0).toList=(rdOf ByteArray.empty qa 0).toList then (laws_FnPacked.j3 kj38 qa qb ql ((bt399.2.length:Int) != 0)) else (laws_FnPacked.j3 kj38 qa qb ql true)) else (none)) else (none)) else (laws_FnPacked.j3 kj38 qa qb ql true)))=some true:=H
                    have A57:=Oa A570
                    clear A570
                    replace H:=Option.bind_eq_some_iff.mp H
                    obtain⟨⟨yp,t400⟩,A580,H⟩:=H
                    replace H:(if (yp.length:Int)=1 then (if 0 < (yp.length:Int) then (if 0 < (qa.length:Int) then (if (rdOf ByteArray.empty yp 0).toList=(rdOf ByteArray.empty qa 0).toList then (laws_FnPacked.j3 kj38 qa qb ql ((t400.length:Int) != 0)) else (laws_FnPacked.j3 kj38 qa qb ql true)) else (none)) else (none)) else (laws_FnPacked.j3 kj38 qa qb ql true))=some true:=H
                    have A58:=Oa A580
                    clear A580
                    have HC59:=Oa H
                    clear H
                    go_wp2_with (first|((with_reducible refine gate_dst (N:=100) rfl ?_);(try(refine gate_guard (by rfl) ?_;dsimp only));refine Kd.N_lit (Kd.slice 5 (Kd.int .u8)) _ 22 ?hg (N':=100) ?hd (xs:=([]:List (List Int))) (inner:=[]) (ok:=(fun k_=>some k_≠(.slice ya qa.length yc:Value).ownBlock∧some k_≠(.slice Ao18 qd.length zb:Value).ownBlock∧some k_≠(.slice qx qb.length qz:Value).ownBlock)) (okp:=(fun k_=>some k_≠(.slice ya qa.length yc:Value).ownBlock∧some k_≠(.slice Ao18 qd.length zb:Value).ownBlock∧some k_≠(.slice qx qb.length qz:Value).ownBlock)) ?hr ?hp (fun _ hk=>hk) ((show ∀ k_,wc.heap.size≤k_→(fun k_=>some k_≠(.slice ya qa.length yc:Value).ownBlock∧some k_≠(.slice Ao18 qd.length zb:Value).ownBlock∧some k_≠(.slice qx qb.length qz:Value).ownBlock) k_ from fun k_ hk=>⟨Kd.fresh' (Kd.R_lt (by(with_reducible repeat(first|apply Od|apply Oc|apply Ob));exact qg.out)) k_ hk,Kd.fresh' (Kd.N_lt (by(with_reducible repeat(first|apply Om|apply Ol|apply Of));exact qm.out)) k_ hk,Kd.fresh' (Kd.R_lt (by(with_reducible repeat(first|apply Od|apply Oc|apply Ob));exact qh.out)) k_ hk⟩) _ (Nat.le_refl _)) (Below.refl _ _) (Nat.le_refl _) (by simp) ?_;(case hd=>rfl);(case hg=>rfl);(case hr=>first|(go_simp;done)|(go_simp;rfl));(case hp=>exact(Reps.none _ _));intro v376 w60 ho61 hb hg_ hnew_;clear hg_ hnew_;(first|rw [← Ny375.out] at ho61|(simp only [Int.reduceToNat] at ho61;rw [← Ny375.out] at ho61));have qs:=Oa (On (by(with_reducible repeat(first|apply Od|apply Oc|apply Ob));exact qg.out) hb);have qt:=Oa (Kd.N_elder' (by(with_reducible repeat(first|apply Om|apply Ol|apply Of));exact qm.out) (Kd.N_base ho61) hb);have qu:=Oa (On (by(with_reducible repeat(first|apply Od|apply Oc|apply Ob));exact qh.out) hb);have qv:=Oa (Kd.N_lower ho61 (Ov (by repeat(first|(with_reducible first|exact HB.out|apply Oi|apply Oe|apply Oh)|exact HB.out))));have yd:=Oa (below_step (by repeat(first|(with_reducible first|exact HB.out|apply Oi|apply Oe|apply Oh)|exact HB.out)) hb);clear qg;clear qm;clear qh;clear HB;have qg:=qs;have qm:=qt;have qh:=qu;have HO377:=qv;have HB:=yd;clear qs qt qu qv yd;clear hb ho61)|((with_reducible refine gate_builtin (b:=.append) (xs:=#[.tmp 100,.tmp 101]) rfl ?_);(try(refine gate_guard (by rfl) ?_;dsimp only));at_builtin;refine Kd.N_append_rows (Kd.slice 5 (Kd.int .u8)) (w0:=w) w.heap.size rfl (.tmp 100) (.tmp 101) 55 22 (.slice none 0 0) 24 rfl Try.underlying55 info22 rfl (by decide) (by omega) v376 zr qd _ _ _ (fun k_=>some k_≠(.slice ya qa.length yc:Value).ownBlock∧some k_≠(.slice qx qb.length qz:Value).ownBlock) (fun k_=>((fun k_=>some k_≠(.slice ya qa.length yc:Value).ownBlock∧some k_≠(.slice qx qb.length qz:Value).ownBlock)) k_∧some k_≠(v376:Value).ownBlock) rfl rfl ?aO ?aR (fun _ hk=>hk) ?aF ?aB ?aS ?aL ?_;(case aR=>exact(by skip;exact Kd.N_F (Kd.N_mono (ok':=(fun k_=>((fun k_=>some k_≠(.slice ya qa.length yc:Value).ownBlock∧some k_≠(.slice qx qb.length qz:Value).ownBlock)) k_∧some k_≠(v376:Value).ownBlock)) (qm.out) (fun k_ hk=>⟨⟨hk.1.1,hk.1.2⟩,hk.2⟩))));(case aB=>exact(by repeat(first|(with_reducible first|exact HB.out|apply Oi|apply Oe|apply Oh)|exact HB.out)));(case aF=>exact(fun k_ hk=>⟨Kd.fresh' (Kd.R_lt (by(with_reducible repeat(first|apply Od|apply Oc|apply Ob));exact qg.out)) k_ hk,Kd.fresh' (Kd.R_lt (by(with_reducible repeat(first|apply Od|apply Oc|apply Ob));exact qh.out)) k_ hk⟩));(case aO=>exact(by(with_reducible repeat(first|apply Om|apply Ol|apply Of));exact Kd.N_mono HO377.out (fun _ hk=>⟨hk.1,hk.2.2⟩)));(case aS=>exact(Ov (by repeat(first|(with_reducible first|exact HB.out|apply Oi|apply Oe|apply Oh)|exact HB.out))));(case aL=>have:=LMc47.out;omega);intro v379 w62 ho hb hg hat;rw [← Ny378.out] at ho;have qs:=Oa (Kd.R_over' (by(with_reducible repeat(first|apply Od|apply Oc|apply Ob));exact qg.out) (Kd.N_typed (by(with_reducible repeat(first|apply Om|apply Ol|apply Of));exact HO377.out)) (by decide) hg);have qt:=Oa (Kd.N_afterv (ok:=(fun k_=>some k_≠(.slice ya qa.length yc:Value).ownBlock∧some k_≠(.slice qx qb.length qz:Value).ownBlock)) (by(with_reducible repeat(first|apply Om|apply Ol|apply Of));exact qm.out) hg hat);have qu:=Oa (Kd.R_over' (by(with_reducible repeat(first|apply Od|apply Oc|apply Ob));exact qh.out) (Kd.N_typed (by(with_reducible repeat(first|apply Om|apply Ol|apply Of));exact HO377.out)) (by decide) hg);have qv:=Oa (hb);have yd:=Oa (ho);clear qg;clear qm;clear qh;clear HB;clear HO377;have qg:=qs;have qm:=qt;have qh:=qu;have HB:=qv;have qi:=yd;clear qs qt qu qv yd;clear ho hb hg hat)|((with_reducible refine gate_dst (N:=104) rfl ?_);(try(refine gate_guard (by rfl) ?_;dsimp only));refine Kd.R_lit (Kd.int .u8) _ 5 ?hg (N:=104) ?hd (xs:=([]:List Int)) (inner:=[]) (ok:=fun _=>True) (okp:=fun _=>True) ?hr ?hp (fun _ hk=>hk) trivial (Below.refl _ _) (Nat.le_refl _) (by simp) ?_;(case hd=>rfl);(case hg=>rfl);(case hr=>first|(go_simp;done)|(go_simp;rfl));(case hp=>exact(Reps.none _ _));intro v382 w63 ho64 hb hg_ hnew_;clear hg_ hnew_;(first|rw [← Ny381.out] at ho64|(simp only [Int.reduceToNat] at ho64;rw [← Ny381.out] at ho64));have qs:=Oa (On (by(with_reducible repeat(first|apply Od|apply Oc|apply Ob));exact qg.out) hb);have qt:=Oa (Kd.N_elder' (by(with_reducible repeat(first|apply Om|apply Ol|apply Of));exact qm.out) (Os ho64) hb);have qu:=Oa (On (by(with_reducible repeat(first|apply Od|apply Oc|apply Ob));exact qh.out) hb);have qv:=Oa (Kd.N_elder' (by(with_reducible repeat(first|apply Om|apply Ol|apply Of));exact qi.out) (Os ho64) hb);have yd:=Oa (Kd.R_lower ho64 (Ov (by repeat(first|(with_reducible first|exact HB.out|apply Oi|apply Oe|apply Oh)|exact HB.out))));have ym:=Oa (below_step (by repeat(first|(with_reducible first|exact HB.out|apply Oi|apply Oe|apply Oh)|exact HB.out)) hb);clear qg;clear qm;clear qh;clear qi;clear HB;have qg:=qs;have qm:=qt;have qh:=qu;have qi:=qv;have HO383:=yd;have HB:=ym;clear qs qt qu qv yd ym;clear hb ho64;have p384:0≤(0:Int):=(by omega);have q384:0 < (qd.length:Int):=of_decide_eq_true (by first|(with_reducible assumption)|assumption);obtain⟨ad384,A384_0,c384_0,e384,hx384_0,hl384_0,hi384_0⟩:=at_L5 (Oq qm.out).2.2 0 p384 q384;cases e384;obtain⟨ce384,hce384,hMe384,hcc384⟩:=Kd.N_get qm.out [] 0 p384 (by first|exact q384|exact of_decide_eq_true (by first|(with_reducible assumption)|assumption)|(have e_:=(Oq qm.out).1;omega));obtain⟨ua384_0,uc384_0,rfl,ul384_0,ge384_0⟩:=Kd.FK_slice_open hMe384;have zf:=hcc384 0 _ rfl;rw [Nat.add_zero,show((Kd.slice 5 (Kd.int .u8))).sz=1 from rfl,Nat.mul_one] at zf;replace zf:=Option.some.inj (zf.symm.trans hx384_0);injection zf with hva_ hvn_ hvc_;rw [hva_] at ge384_0;rw [hvc_] at ul384_0;have qe:=Oa (show Kd.V (Kd.int .u8) 5 _ w.heap.size _ _ (rd_L5 qd 0) from Kd.V_mk ul384_0 ge384_0);clear hva_ hvn_ hvc_ ge384_0 ul384_0;clear hcc384 hce384;have qi384:(0 < qd.length)=True:=eq_true (by omega);(try rw [show((0:Int)).toNat=0 from rfl] at hx384_0);(try rw [Addr.add_zero'] at hx384_0);have HR384_0:=Oa hi384_0;have HC384_0:=Oa hl384_0;clear hi384_0 hl384_0;replace p384:=eq_true p384;replace q384:=eq_true q384)|((with_reducible refine gate_builtin (b:=.append) (xs:=#[.tmp 104,.tmp 107]) rfl ?_);(try(refine gate_guard (by rfl) ?_;dsimp only));at_builtin;refine Kd.R_append_rows (Kd.int .u8) (w0:=w) w.heap.size rfl (.tmp 104) (.tmp 107) 22 5 (.int .u8 0) 1 rfl Try.underlying22 info5 rfl (by decide) (by omega) v382 yu (rd_L5 qd 0) _ _ _ (fun _=>True) (fun _=>False) rfl rfl ?aO ?aR (fun _ _ h=>h) (fun _ h=>h.elim) ?aF ?aB ?aS ?aL ?_;(case aR=>repeat(first|exact(by repeat(first|(with_reducible exact HR384_0.out)|(with_reducible refine Oo ?_ _)|(with_reducible refine Op ?_ _)|(with_reducible refine Oj ?_)|exact HR384_0.out))|(with_reducible refine Oo ?_ _)|(with_reducible refine Op ?_ _)|(with_reducible refine Oj ?_)));(case aB=>exact(by repeat(first|(with_reducible first|exact HB.out|apply Oi|apply Oe|apply Oh)|exact HB.out)));(case aF=>exact(fun _ _=>trivial));(case aO=>exact(by(with_reducible repeat(first|apply Od|apply Oc|apply Ob));exact HO383.out));(case aS=>exact(Ov (by repeat(first|(with_reducible first|exact HB.out|apply Oi|apply Oe|apply Oh)|exact HB.out))));(case aL=>have:=LMc49.out;omega);intro v386 w65 ho hb hg hat;rw [← Ny385.out] at ho;have qs:=Oa (Kd.R_over' (by(with_reducible repeat(first|apply Od|apply Oc|apply Ob));exact qg.out) (Kd.R_typed (by(with_reducible repeat(first|apply Od|apply Oc|apply Ob));exact HO383.out)) (by decide) hg);have qt:=Oa (Kd.N_afterv (ok:=(fun k_=>some k_≠(.slice ya qa.length yc:Value).ownBlock∧some k_≠(.slice qx qb.length qz:Value).ownBlock∧some k_≠(v379:Value).ownBlock)) (by(with_reducible repeat(first|apply Om|apply Ol|apply Of));exact Kd.N_mono qm.out (fun _ hk=>⟨⟨hk.1.1.1,⟨hk.1.1.2,hk.1.2⟩⟩,hk.2⟩)) hg hat);have qu:=Oa (Kd.R_over' (by(with_reducible repeat(first|apply Od|apply Oc|apply Ob));exact qh.out) (Kd.R_typed (by(with_reducible repeat(first|apply Od|apply Oc|apply Ob));exact HO383.out)) (by decide) hg);have qv:=Oa (Kd.N_afterv (ok:=(fun k_=>some k_≠(.slice ya qa.length yc:Value).ownBlock∧some k_≠(.slice qx qb.length qz:Value).ownBlock)) (by(with_reducible repeat(first|apply Om|apply Ol|apply Of));exact qi.out) hg hat);have yd:=Oa (Kd.V_afterv (ok:=(fun k_=>some k_≠(.slice ya qa.length yc:Value).ownBlock∧some k_≠(.slice (some ad384) qd.length zb:Value).ownBlock∧some k_≠(.slice qx qb.length qz:Value).ownBlock∧some k_≠(v379:Value).ownBlock)) (by(with_reducible repeat(first|apply Kd.V_alloc|apply Kd.V_drewN|apply Kd.V_drew));exact Kd.V_mono qe.out (fun _ hk=>⟨⟨hk.1.1.1.1,⟨hk.2,⟨hk.1.1.1.2,hk.1.1.2⟩⟩⟩,hk.1.2⟩)) hg hat);have ym:=Oa (hb);have yv:=Oa (ho);clear qg;clear qm;clear qh;clear qi;clear qe;clear HB;clear HO383;have qg:=qs;have qm:=qt;have qh:=qu;have qi:=qv;have qe:=yd;have HB:=ym;have ye:=yv;clear qs qt qu qv yd ym yv;clear ho hb hg hat;obtain⟨Ao66,yx,eo66⟩:=Ou ye.out;subst eo66;have pA:0≤(qf:Int):=of_decide_eq_true (by first|(with_reducible assumption)|assumption);have qA:qf < (qk.length:Int):=of_decide_eq_true (by first|(with_reducible assumption)|assumption);obtain⟨qr,co53,eo53,gb53,gl53,cl53,HG53⟩:=Kd.R_form ye.out (by omega);(injection eo53 with ea_ en_ ec_;subst ea_;subst ec_;clear en_);obtain⟨hxr,hfr⟩:=Kd.R_celln 0 ye.out (qf:Int) pA qA;have qB:(0:Int) < ((qq.length:Int):Int):=of_decide_eq_true (by first|(with_reducible assumption)|assumption);obtain⟨yo,yw,eo55,gb55,gl55,cl55,HG55⟩:=Kd.N_form qi.out (by omega);subst eo55;obtain⟨ceb,hclb,hMb,hccb,hfrb⟩:=Kd.N_elem qi.out [] (0:Int) (by omega) qB;obtain⟨uab,ucb,rfl,ulb,geb⟩:=Kd.FK_slice_open hMb;have hxb:=hccb 0 _ rfl;have hfb:=hfrb 0;simp only [show((Kd.slice 5 (Kd.int .u8))).sz=1 from rfl,Nat.mul_one,Nat.add_zero,Int.toNat_zero] at hxb hfb;clear hclb hMb hccb hfrb ulb geb;have HNE:=Oa (bend_ne HG53 HG55 (by decide));have GB5:=Oa gb55;clear gb53 gl53 HG53 gb55 gl55 HG55 cl53 cl55;have qn55:(0 < qq.length)=True:=eq_true (by omega);have pA:=eq_true pA;have qA:=eq_true qA;have qB:=eq_true qB)|((with_reducible refine gate_store (t:=22) (p:=109) rfl ?_);refine store_event (t:=22) (p:=109) (v:=?vo_wS) (w1:=(w65.setCell ⟨yo,0,none⟩ (.slice (some ⟨qr,0,none⟩) qk.length yx))) ?hg ?ho ?hn ?hr ?_;(case ho=>rfl);(case hg=>rfl);(case hn=>rfl);(case hr=>first|(go_simp;done)|(go_simp;rfl));intro wS hwS;have HWS:=Oa hwS;have hxS:wS.cell? ⟨yo,0,none⟩=some (.slice (some ⟨qr,0,none⟩) qk.length yx):=(congrArg (fun W_:World=>W_.cell? ⟨yo,0,none⟩) hwS).trans (bend_same hxb);have hxR:wS.cell? ⟨qr,(qf:Int).toNat,none⟩=some (.int .u8 (rd qk qf)):=(congrArg (fun W_:World=>W_.cell? ⟨qr,(qf:Int).toNat,none⟩) hwS).trans ((World.cell?_setCell_far _ _ _ _ HNE.out).trans hxr);have hfR:wS.frozen? ⟨qr,(qf:Int).toNat,none⟩=false:=(congrArg (fun W_:World=>W_.frozen? ⟨qr,(qf:Int).toNat,none⟩) hwS).trans (bend_frozen HNE.out hfr);have HBS:=Oa (show Below w.heap.size w wS from Eq.subst (motive:=fun W_=>Below w.heap.size w W_) hwS.symm (below_set HB.out GB5.out));clear hwS hxr hfr hxb hfb)|((with_reducible refine Ot (f:=52) rfl ?_);refine goesL_ (some 115) rfl rfl Try.func52 (by kernel_rfl) rfl #[.slice A0 l0.length c0,.int .i64 (qk.length:Int)] rfl (by(try simp only [List.map_toArray,List.map_cons,List.map_nil]);first|done|rfl|(simp only [List.length_drop,List.length_take];rfl)) ?_;(with_reducible refine(laws_pick.calls kj38 _ _ l0 (qk.length:Int) qf _ ?side1 ?side2 A50.out).mono ?_);(case side1=>repeat(first|exact(Kd.C_below HR0.out HBS.out)|(with_reducible refine Oo ?_ _)|(with_reducible refine Op ?_ _)|(with_reducible refine Oj ?_)));(case side2=>exact HC0.out);rintro e w' ⟨rfl,⟨nd,rfl⟩⟩;refine⟨_,rfl,?_⟩;generalize hwT:wS.drewN nd=wT;have HWT:=Oa hwT;replace hxS:wT.cell? ⟨yo,0,none⟩=some (.slice (some ⟨qr,0,none⟩) qk.length yx):=Eq.subst (motive:=fun W_:World=>W_.cell? ⟨yo,0,none⟩=some (.slice (some ⟨qr,0,none⟩) qk.length yx)) hwT hxS;replace hxR:wT.cell? ⟨qr,(qf:Int).toNat,none⟩=some (.int .u8 (rd qk qf)):=Eq.subst (motive:=fun W_:World=>W_.cell? ⟨qr,(qf:Int).toNat,none⟩=some (.int .u8 (rd qk qf))) hwT hxR;replace hfR:wT.frozen? ⟨qr,(qf:Int).toNat,none⟩=false:=Eq.subst (motive:=fun W_:World=>W_.frozen? ⟨qr,(qf:Int).toNat,none⟩=false) hwT hfR;clear hwT HBS))
                    refine start_ (n:=13) (S:=fun w'=>w'.cell? ⟨yo,0,none⟩=some (.slice (some ⟨qr,0,none⟩) qk.length yx)∧w'.cell? ⟨qr,(qf:Int).toNat,none⟩=some (.int .u8 (rd qk qf))) (ds:=[12]) #[false,false,false,false,false,false,false,false,false,false,false,false,false] (by kernel_rfl) rfl rfl ⟨hxS,hxR⟩ (fun hHeld=>?_);refine with_tabW laws_FnPacked.tab26 laws_FnPacked.bits26 (fun HT_ HW_=>?_)
                    generalize hwR:wT.drew=wR at hHeld ⊢
                    have hfR2:wR.frozen? ⟨qr,(qf:Int).toNat,none⟩=false:=by rw [← hwR];exact hfR
                    have HWR:=Oa hwR
                    clear hwR hxS hxR hfR
                    refine pure_ (i:=0) (N:=some 116) (v:=?_) (a':=?_) #[true,false,false,false,false,false,false,false,false,false,false,false,false] rfl rfl (Og HT_.out (by kernel_rfl)) (fun _ _ _ h=>h) (Or.inl ⟨by rfl,?_⟩) ?_ ?_
                    rotate_left
                    ·intro w'
                     go_simp
                     with_reducible rfl
                    rotate_left
                    ·simp only [Act.put,List.setIfInBounds_toArray,List.set_cons_zero,List.set_cons_succ,i64_w,i32_w]
                     rfl
                    refine pure_ (i:=1) (N:=some 117) (v:=?_) (a':=?_) #[true,true,false,false,false,false,false,false,false,false,false,false,false] rfl rfl (Og HT_.out (by kernel_rfl)) (fun _ _ _ h=>h) (Or.inl ⟨by rfl,?_⟩) ?_ ?_
                    rotate_left
                    ·intro w'
                     go_simp
                     with_reducible rfl
                    rotate_left
                    ·simp only [Act.put,List.setIfInBounds_toArray,List.set_cons_zero,List.set_cons_succ,i64_w,i32_w]
                     rfl
                    refine pure_ (i:=3) (N:=some 119) (v:=?_) (a':=?_) #[true,true,false,true,false,false,false,false,false,false,false,false,false] rfl rfl (Og HT_.out (by kernel_rfl)) (fun _ _ _ h=>h) (Or.inl ⟨by rfl,?_⟩) ?_ ?_
                    rotate_left
                    ·intro w'
                     go_simp
                     with_reducible rfl
                    rotate_left
                    ·simp only [Act.put,List.setIfInBounds_toArray,List.set_cons_zero,List.set_cons_succ,i64_w,i32_w]
                     rfl
                    refine pure_ (i:=4) (N:=some 120) (v:=?_) (a':=?_) #[true,true,false,true,true,false,false,false,false,false,false,false,false] rfl rfl (Og HT_.out (by kernel_rfl)) (fun _ _ _ h=>h) (Or.inl ⟨by rfl,?_⟩) ?_ ?_
                    rotate_left
                    ·intro w'
                     go_simp
                     with_reducible rfl
                    rotate_left
                    ·simp only [Act.put,List.setIfInBounds_toArray,List.set_cons_zero,List.set_cons_succ,i64_w,i32_w]
                     rfl
                    refine pure_ (i:=5) (N:=some 121) (v:=?_) (a':=?_) #[true,true,false,true,true,true,false,false,false,false,false,false,false] rfl rfl (Og HT_.out (by kernel_rfl)) (fun _ _ _ h=>h) (Or.inl ⟨by rfl,?_⟩) ?_ ?_
                    rotate_left
                    ·intro w'
                     go_simp
                     with_reducible rfl
                    rotate_left
                    ·simp only [Act.put,List.setIfInBounds_toArray,List.set_cons_zero,List.set_cons_succ,i64_w,i32_w]
                     rfl
                    refine pure_ (i:=7) (N:=some 123) (v:=?_) (a':=?_) #[true,true,false,true,true,true,false,true,false,false,false,false,false] rfl rfl (Og HT_.out (by kernel_rfl)) (fun _ _ _ h=>h) (Or.inl ⟨by rfl,?_⟩) ?_ ?_
                    rotate_left
                    ·intro w'
                     go_simp
                     with_reducible rfl
                    rotate_left
                    ·simp only [Act.put,List.setIfInBounds_toArray,List.set_cons_zero,List.set_cons_succ,i64_w,i32_w]
                     rfl
                    refine take_ (i:=2) (N:=some 118) (v:=?_) (a':=?_) #[true,true,true,true,true,true,false,true,false,false,false,false,false] rfl rfl (take_ofW HT_.out HW_.out (by kernel_rfl)) (fun _ _ _ h=>h) (Or.inl ⟨by rfl,?_⟩) hHeld ?_ ?_
                    rotate_left
                    ·intro w' s0
                     obtain⟨s1,s2⟩:=s0
                     go_simp
                     with_reducible rfl
                    rotate_left
                    ·simp only [Act.put,List.setIfInBounds_toArray,List.set_cons_zero,List.set_cons_succ,i64_w,i32_w]
                     rfl
                    refine take_ (i:=6) (N:=some 122) (v:=?_) (a':=?_) #[true,true,true,true,true,true,true,true,false,false,false,false,false] rfl rfl (take_ofW HT_.out HW_.out (by kernel_rfl)) (fun _ _ _ h=>h) (Or.inl ⟨by rfl,?_⟩) hHeld ?_ ?_
                    rotate_left
                    ·intro w' s0
                     obtain⟨s1,s2⟩:=s0
                     go_simp
                     with_reducible rfl
                    rotate_left
                    ·simp only [Act.put,List.setIfInBounds_toArray,List.set_cons_zero,List.set_cons_succ,i64_w,i32_w]
                     rfl
                    refine pure_ (i:=8) (N:=some 124) (v:=?_) (a':=?_) #[true,true,true,true,true,true,true,true,true,false,false,false,false] rfl rfl (Og HT_.out (by kernel_rfl)) (fun _ _ _ h=>h) (Or.inl ⟨by rfl,?_⟩) ?_ ?_
                    rotate_left
                    ·intro w'
                     go_simp
                     with_reducible rfl
                    rotate_left
                    ·simp only [Act.put,List.setIfInBounds_toArray,List.set_cons_zero,List.set_cons_succ,i64_w,i32_w]
                     rfl
                    refine take_ (i:=9) (N:=some 125) (v:=?_) (a':=?_) #[true,true,true,true,true,true,true,true,true,true,false,false,false] rfl rfl (take_ofW HT_.out HW_.out (by kernel_rfl)) (fun _ _ _ h=>h) (Or.inl ⟨by rfl,?_⟩) hHeld ?_ ?_
                    rotate_left
                    ·intro w' s0
                     obtain⟨s1,s2⟩:=s0
                     go_simp
                     with_reducible rfl
                    rotate_left
                    ·simp only [Act.put,List.setIfInBounds_toArray,List.set_cons_zero,List.set_cons_succ,i64_w,i32_w]
                     rfl
                    refine pure_ (i:=10) (N:=some 126) (v:=?_) (a':=?_) #[true,true,true,true,true,true,true,true,true,true,true,false,false] rfl rfl (Og HT_.out (by kernel_rfl)) (fun _ _ _ h=>h) (Or.inl ⟨by rfl,?_⟩) ?_ ?_
                    rotate_left
                    ·intro w'
                     go_simp
                     with_reducible rfl
                    rotate_left
                    ·simp only [Act.put,List.setIfInBounds_toArray,List.set_cons_zero,List.set_cons_succ,i64_w,i32_w]
                     rfl
                    refine pure_ (i:=11) (N:=some 127) (v:=?_) (a':=?_) #[true,true,true,true,true,true,true,true,true,true,true,true,false] rfl rfl (Og HT_.out (by kernel_rfl)) (fun _ _ _ h=>h) (Or.inl ⟨by rfl,?_⟩) ?_ ?_
                    rotate_left
                    ·intro w'
                     go_simp
                     with_reducible rfl
                    rotate_left
                    ·simp only [Act.put,List.setIfInBounds_toArray,List.set_cons_zero,List.set_cons_succ,i64_w,i32_w]
                     rfl
                    obtain⟨hh1,hh2⟩:=hHeld
                    refine last_ (i:=12) (N:=none) #[true,true,true,true,true,true,true,true,true,true,true,true,true] rfl rfl (one_of HT_.out (by kernel_rfl)) (by decide) (fun K hK=>?_)
                    refine skip_ (w1:=?_) (by rfl) rfl ?_ ?_
                    rotate_left
                    ·go_simp
                     rfl
                    refine hK.out _ _ ?_
                    clear hK K
                    refine done_ (done_of HT_.out (by kernel_rfl)) ?_
                    clear HT_ HW_
                    rw [bend_worlds (W:=w65) HWS.out HWT.out HWR.out HNE.out]
                    clear HWS HWT HWR HNE hh1 hh2 hfR2 GB5
                    have qs:=Oa (Kd.V_drewN qe.out nd);have qt:=Oa (Ol qi.out nd);have qu:=Oa (Oc ye.out nd);have qv:=Oa (Oc qg.out nd);have yd:=Oa (Ol qm.out nd);have ym:=Oa (Oc qh.out nd);have yv:=Oa (Oe HB.out nd);clear qe qi ye qg qm qh HB;have qe:=qs;have qi:=qt;have ye:=qu;have qg:=qv;have qm:=yd;have qh:=ym;have HB:=yv;clear qs qt qu qv yd ym yv;generalize World.drewN w65 nd=w65 at qe qi ye qg qm qh HB ⊢
                    have qs:=Oa (Ob qg.out)
                    have qt:=Oa (Of qm.out)
                    have qu:=Oa (Ob qh.out)
                    have qv:=Oa (Of qi.out)
                    have yd:=Oa (Kd.V_drew qe.out)
                    have ym:=Oa (Ob ye.out)
                    have yv:=Oa (Oh HB.out)
                    clear qg
                    clear qm
                    clear qh
                    clear qi
                    clear qe
                    clear ye
                    clear HB
                    have qg:=qs
                    have qm:=qt
                    have qh:=qu
                    have qi:=qv
                    have qe:=yd
                    have ye:=ym
                    have HB:=yv
                    clear qs qt qu qv yd ym yv
                    have p389:0≤(qf:Int):=of_decide_eq_true (by first|(with_reducible assumption)|assumption)
                    have q389:qf < (qk.length:Int):=of_decide_eq_true (by first|(with_reducible assumption)|assumption)
                    obtain⟨ad389,e389,hx389_0⟩:=Kd.at_int (Ok ye.out).2.2 qf p389 q389
                    cases e389
                    replace p389:=eq_true p389
                    replace q389:=eq_true q389
                    have p53:0≤(qf:Int):=of_decide_eq_true (by first|(with_reducible assumption)|assumption)
                    have q53:(qf:Int) < ((qk.length:Int):Int):=of_decide_eq_true (by first|(with_reducible assumption)|assumption)
                    obtain⟨qr,co53,eo53,gb53,gl53,cl53,HG53⟩:=Kd.R_form ye.out (by omega)
                    (first|cases eo53|(injection eo53 with ea_ en_ ec_;(first|subst ea_|(injection ea_ with ea_;subst ea_));subst ec_;clear en_))
                    have GB53:=Oa gb53
                    have GG53:=Oa HG53
                    clear gb53 gl53 HG53
                    (first|simp only [add_plain] at hx389_0|skip)
                    obtain⟨hx53_0,hf53_0⟩:=Kd.R_celln 0 ye.out (qf:Int) p53 q53
                    replace p53:=eq_true p53
                    replace q53:=eq_true q53
                    have HP68:=Kd.R_putn ye.out (qf:Int) (Go.bits .xor .u8 (rd qk qf) 16)
                    rw [← Ny390.out] at HP68
                    have HQ68:=Oa HP68
                    clear HP68
                    generalize w65.drew=w67 at qg qm qh qi qe ye HB GG53 HQ68 hf53_0 hx389_0 hx53_0 ⊢
                    have qs:Aside0 (Kd.R Kd.string 9 (w67.setCell ⟨qr,(qf:Int).toNat,none⟩ (.int .u8 (Go.bits .xor .u8 (rd qk qf) 16))) w.heap.size (fun _=>True) (.slice ya qa.length yc) qa):=⟨by(with_reducible repeat(first|apply Od|apply Oc|apply Ob));exact Kd.R_mono (Kd.R_far (p:=⟨qr,(qf:Int).toNat,none⟩) (Kd.R_types qg.out GG53.out (by decide)) (fun _ hk=>hk.2) (.int .u8 (Go.bits .xor .u8 (rd qk qf) 16))) (fun _ hk=>trivial)⟩
                    have qt:Aside0 (Kd.N (Kd.slice 5 (Kd.int .u8)) 22 (w67.setCell ⟨qr,(qf:Int).toNat,none⟩ (.int .u8 (Go.bits .xor .u8 (rd qk qf) 16))) w.heap.size (fun k_=>some k_≠(.slice ya qa.length yc:Value).ownBlock∧some k_≠(.slice qx qb.length qz:Value).ownBlock∧some k_≠(.slice (some ⟨yo,0,none⟩) qq.length yw:Value).ownBlock∧some k_≠(.slice (some ⟨qr,0,none⟩) qk.length yx:Value).ownBlock) (.slice (some ad384) qd.length zb) qd):=⟨by(with_reducible repeat(first|apply Om|apply Ol|apply Of));exact Kd.N_mono (Kd.N_far (p:=⟨qr,(qf:Int).toNat,none⟩) (Kd.N_mono qm.out (fun k_ hk=>(⟨hk,fun e_=>hk.2 (by rw [e_];rfl)⟩:_∧k_≠qr))) (fun _ hk=>hk.2) (.int .u8 (Go.bits .xor .u8 (rd qk qf) 16))) (fun _ hk=>⟨hk.1.1.1,⟨hk.1.1.2.1,⟨hk.1.1.2.2,hk.1.2⟩⟩⟩)⟩
                    have qu:Aside0 (Kd.R k71 71 (w67.setCell ⟨qr,(qf:Int).toNat,none⟩ (.int .u8 (Go.bits .xor .u8 (rd qk qf) 16))) w.heap.size (fun _=>True) (.slice qx qb.length qz) qb):=⟨by(with_reducible repeat(first|apply Od|apply Oc|apply Ob));exact Kd.R_mono (Kd.R_far (p:=⟨qr,(qf:Int).toNat,none⟩) (Kd.R_types qh.out GG53.out (by decide)) (fun _ hk=>hk.2) (.int .u8 (Go.bits .xor .u8 (rd qk qf) 16))) (fun _ hk=>trivial)⟩
                    have qv:Aside0 (Kd.N (Kd.slice 5 (Kd.int .u8)) 22 (w67.setCell ⟨qr,(qf:Int).toNat,none⟩ (.int .u8 (Go.bits .xor .u8 (rd qk qf) 16))) w.heap.size (fun k_=>some k_≠(.slice ya qa.length yc:Value).ownBlock∧some k_≠(.slice qx qb.length qz:Value).ownBlock∧some k_≠(.slice (some ⟨qr,0,none⟩) qk.length yx:Value).ownBlock) (.slice (some ⟨yo,0,none⟩) qq.length yw) qq):=⟨by(with_reducible repeat(first|apply Om|apply Ol|apply Of));exact Kd.N_mono (Kd.N_far (p:=⟨qr,(qf:Int).toNat,none⟩) (Kd.N_mono qi.out (fun k_ hk=>(⟨hk,fun e_=>hk.2 (by rw [e_];rfl)⟩:_∧k_≠qr))) (fun _ hk=>hk.2) (.int .u8 (Go.bits .xor .u8 (rd qk qf) 16))) (fun _ hk=>⟨hk.1.1.1,⟨hk.1.1.2,hk.1.2⟩⟩)⟩
                    have yd:Aside0 (Kd.V (Kd.int .u8) 5 (w67.setCell ⟨qr,(qf:Int).toNat,none⟩ (.int .u8 (Go.bits .xor .u8 (rd qk qf) 16))) w.heap.size (fun k_=>some k_≠(.slice ya qa.length yc:Value).ownBlock∧some k_≠(.slice (some ad384) qd.length zb:Value).ownBlock∧some k_≠(.slice qx qb.length qz:Value).ownBlock∧some k_≠(.slice (some ⟨yo,0,none⟩) qq.length yw:Value).ownBlock∧some k_≠(.slice (some ⟨qr,0,none⟩) qk.length yx:Value).ownBlock) (.slice A384_0 (rd_L5 qd 0).length c384_0) (rd_L5 qd 0)):=⟨by(with_reducible repeat(first|apply Kd.V_alloc|apply Kd.V_drewN|apply Kd.V_drew));exact Kd.V_mono (Kd.V_far (p:=⟨qr,(qf:Int).toNat,none⟩) (Kd.V_mono qe.out (fun k_ hk=>(⟨hk,fun e_=>hk.2 (by rw [e_];rfl)⟩:_∧k_≠qr))) (fun _ hk=>hk.2) (.int .u8 (Go.bits .xor .u8 (rd qk qf) 16))) (fun _ hk=>⟨hk.1.1.1,⟨hk.1.1.2.1,⟨hk.1.1.2.2.1,⟨hk.1.1.2.2.2,hk.1.2⟩⟩⟩⟩)⟩
                    have ym:Aside0 (Kd.R (Kd.int .u8) 5 (w67.setCell ⟨qr,(qf:Int).toNat,none⟩ (.int .u8 (Go.bits .xor .u8 (rd qk qf) 16))) w.heap.size (fun _=>True) (.slice (some ⟨qr,0,none⟩) qk.length yx) y390):=⟨by(with_reducible repeat(first|apply Od|apply Oc|apply Ob));exact HQ68.out⟩
                    have yv:Aside0 (Below w.heap.size w (w67.setCell ⟨qr,(qf:Int).toNat,none⟩ (.int .u8 (Go.bits .xor .u8 (rd qk qf) 16)))):=⟨by repeat(first|(with_reducible first|exact HB.out|apply Oi|apply Oe|apply Oh|refine below_set ?_ GB53.out)|exact HB.out)⟩
                    (try clear qg)
                    (try clear qm)
                    (try clear qh)
                    (try clear qi)
                    (try clear qe)
                    (try clear ye)
                    (try clear HB)
                    generalize (w67.setCell ⟨qr,(qf:Int).toNat,none⟩ (.int .u8 (Go.bits .xor .u8 (rd qk qf) 16)))=w69 at qs qt qu qv yd ym yv ⊢
                    have qg:=qs
                    have qm:=qt
                    have qh:=qu
                    have qi:=qv
                    have qe:=yd
                    have ye:=ym
                    have HB:=yv
                    clear qs qt qu qv yd ym yv
                    have p55:0≤(0:Int):=(by omega)
                    have q55:(0:Int) < ((qq.length:Int):Int):=of_decide_eq_true (by first|(with_reducible assumption)|assumption)
                    have qi55:(0 < qq.length)=True:=eq_true (by omega)
                    obtain⟨yo,yw,eo55,gb55,gl55,cl55,HG55⟩:=Kd.N_form qi.out (by omega)
                    (first|cases eo55|(injection eo55 with ea_ en_ ec_;(first|subst ea_|(injection ea_ with ea_;subst ea_));subst ec_;clear en_))
                    have GB55:=Oa gb55
                    have GG55:=Oa HG55
                    clear gb55 gl55 HG55
                    obtain⟨ce55,hcl55,hM55,hcc55,hfr55⟩:=Kd.N_elem qi.out [] (0:Int) p55 q55
                    obtain⟨ua55_0,uc55_0,rfl,ul55_0,ge55_0⟩:=Kd.FK_slice_open hM55
                    have zo:=hcc55 0 _ rfl
                    have hf55_0:=hfr55 0
                    (try simp only [show((Kd.slice 5 (Kd.int .u8))).sz=1 from rfl,Nat.mul_one,Nat.add_zero] at zo)
                    (try simp only [show((Kd.slice 5 (Kd.int .u8))).sz=1 from rfl,Nat.mul_one,Nat.add_zero] at hf55_0)
                    clear hcl55 hcc55 hfr55 hM55
                    (try rw [show((0:Int)).toNat=0 from rfl] at zo)
                    (try simp only [Nat.reduceMul,Nat.zero_mul,Nat.zero_add,Nat.reduceAdd] at zo)
                    (try rw [show((0:Int)).toNat=0 from rfl] at hf55_0)
                    (try simp only [Nat.reduceMul,Nat.zero_mul,Nat.zero_add,Nat.reduceAdd] at hf55_0)
                    replace p55:=eq_true p55
                    replace q55:=eq_true q55
                    have HX70:=Oa (show Kd.N (Kd.slice 5 (Kd.int .u8)) 22 w69 w.heap.size (fun k_=>some k_≠(.slice ya qa.length yc:Value).ownBlock∧some k_≠(.slice qx qb.length qz:Value).ownBlock) (.slice (some ⟨yo,0,none⟩) qq.length yw) qq from(by(with_reducible repeat(first|apply Om|apply Ol|apply Of));exact Kd.N_mono qi.out (fun _ hk=>⟨hk.1,hk.2.1⟩)))
                    obtain⟨ce70,hcl70,hM70,hcc70,hfr70⟩:=Kd.N_elem HX70.out [] (0:Int) (by omega) (by have h_:(0:Int) < ((qq.length:Int):Int):=of_decide_eq_true (by first|(with_reducible assumption)|assumption);first|exact h_|(have e_:=(Oq qi.out).1;omega)|simpa using h_)
                    obtain⟨ua70_0,uc70_0,rfl,ul70_0,ge70_0⟩:=Kd.FK_slice_open hM70
                    have hrow_:=Kd.R_mono (ok':=(fun k_=>((fun k_=>some k_≠(.slice ya qa.length yc:Value).ownBlock∧some k_≠(.slice qx qb.length qz:Value).ownBlock)) k_∧k_≠yo)) (Kd.R_apart' (Kd.R_apart' (Kd.R_apart' (ye.out) (Kd.R_typed qg.out) (by decide)) (Kd.R_typed qh.out) (by decide)) (Kd.N_typed qi.out) (by decide)) (fun k_ hk=>⟨⟨hk.1.1.2,hk.1.2⟩,fun e_=>(hk.2) (by rw [e_];rfl)⟩)
                    have hl_:=(Ok hrow_).1
                    have HP70:=Kd.N_seg HX70.out (0:Int) (by omega) (by have h_:(0:Int) < ((qq.length:Int):Int):=of_decide_eq_true (by first|(with_reducible assumption)|assumption);first|exact h_|(have e_:=(Oq qi.out).1;omega)|simpa using h_) (seg:=[.slice (some ⟨qr,0,none⟩) qk.length yx]) (j:=0) hcl70 hcc70 (show 1≤1 from by decide) (x':=y390) (show(Kd.slice 5 (Kd.int .u8)).FK _ _ _ [.slice (some ⟨qr,0,none⟩) qk.length yx] from(by rw [hl_] at hrow_ ⊢;exact Kd.FK_slice_mk (Ok hrow_).2.1 (Kd.R_F hrow_))) (fun _ hk=>hk)
                    clear hrow_ hl_
                    have zp:=hcc70 0 _ rfl
                    (try simp only [show((Kd.slice 5 (Kd.int .u8))).sz=1 from rfl,Nat.mul_one,Nat.add_zero] at zp)
                    (try rw [show((0:Int)).toNat=0 from rfl] at zp)
                    (try simp only [Nat.reduceMul,Nat.zero_mul,Nat.zero_add,Nat.reduceAdd] at zp)
                    have hf70_0:=hfr70 0
                    (try simp only [show((Kd.slice 5 (Kd.int .u8))).sz=1 from rfl,Nat.mul_one,Nat.add_zero] at hf70_0)
                    (try rw [show((0:Int)).toNat=0 from rfl] at hf70_0)
                    (try simp only [Nat.reduceMul,Nat.zero_mul,Nat.zero_add,Nat.reduceAdd] at hf70_0)
                    clear hcl70 hcc70 hfr70 hM70
                    (try simp only [show((Kd.slice 5 (Kd.int .u8))).sz=1 from rfl,Nat.mul_one,Nat.add_zero] at HP70)
                    (try simp only [show((Kd.slice 5 (Kd.int .u8))).sz=1 from rfl,Nat.mul_one,Nat.add_zero] at HP70)
                    generalize hw:w69.setCell ⟨yo,0,none⟩ (.slice (some ⟨qr,0,none⟩) qk.length yx)=w71
                    replace hw:=hw.symm
                    have hg:w69.grownBy w71 (some yo):=(by rw [hw];exact HP70.2);have hp_:Kd.N (Kd.slice 5 (Kd.int .u8)) 22 w71 w.heap.size (fun k_=>some k_≠(.slice ya qa.length yc:Value).ownBlock∧some k_≠(.slice qx qb.length qz:Value).ownBlock) (.slice (some ⟨yo,0,none⟩) qq.length yw) qw:=(by rw [hw,Ny391.out];exact HP70.1);clear HP70;have qs:=Oa (Kd.R_over' (v:=(.slice (some ⟨yo,0,none⟩) qq.length yw)) (by(with_reducible repeat(first|apply Od|apply Oc|apply Ob));exact qg.out) (Kd.N_typed qi.out) (by decide) hg);have qt:=Oa (Kd.N_afterv (v:=(.slice (some ⟨yo,0,none⟩) qq.length yw)) (v1:=(.slice (some ⟨yo,0,none⟩) qq.length yw)) (ok:=(fun k_=>some k_≠(.slice ya qa.length yc:Value).ownBlock∧some k_≠(.slice qx qb.length qz:Value).ownBlock∧some k_≠(.slice (some ⟨qr,0,none⟩) qk.length yx:Value).ownBlock)) (by(with_reducible repeat(first|apply Om|apply Ol|apply Of));exact Kd.N_mono qm.out (fun _ hk=>⟨⟨hk.1,⟨hk.2.1,hk.2.2.2⟩⟩,hk.2.2.1⟩)) hg (.inl rfl));have qu:=Oa (Kd.R_over' (v:=(.slice (some ⟨yo,0,none⟩) qq.length yw)) (by(with_reducible repeat(first|apply Od|apply Oc|apply Ob));exact qh.out) (Kd.N_typed qi.out) (by decide) hg);have qv:=Oa (hp_);have yd:=Oa (Kd.V_afterv (v:=(.slice (some ⟨yo,0,none⟩) qq.length yw)) (v1:=(.slice (some ⟨yo,0,none⟩) qq.length yw)) (ok:=(fun k_=>some k_≠(.slice ya qa.length yc:Value).ownBlock∧some k_≠(.slice (some ad384) qd.length zb:Value).ownBlock∧some k_≠(.slice qx qb.length qz:Value).ownBlock∧some k_≠(.slice (some ⟨qr,0,none⟩) qk.length yx:Value).ownBlock)) (by(with_reducible repeat(first|apply Kd.V_alloc|apply Kd.V_drewN|apply Kd.V_drew));exact Kd.V_mono qe.out (fun _ hk=>⟨⟨hk.1,⟨hk.2.1,⟨hk.2.2.1,hk.2.2.2.2⟩⟩⟩,hk.2.2.2.1⟩)) hg (.inl rfl));have ym:=Oa ((by rw [hw];exact below_set (HB.out) GB55.out:Below w.heap.size w w71));clear qg;clear qm;clear qh;clear qi;clear qe;clear HB;clear ye;have qg:=qs;have qm:=qt;have qh:=qu;have qi:=qv;have qe:=yd;have HB:=ym;clear qs qt qu qv yd ym;clear hg hw hp_
                    go_upto_region 30 with (first|((with_reducible refine Ot (f:=43) rfl ?_);refine goesL_ (some 131) rfl rfl Try.func43 (by kernel_rfl) rfl #[.slice qx qb.length qz,.slice ya qa.length yc,.slice (some ⟨yo,0,none⟩) qw.length yw] rfl (by(try simp only [List.map_toArray,List.map_cons,List.map_nil]);first|done|(rw [show qw.length=qq.length from(Oq qi.out).1.symm] <;> rfl)|rfl|(simp only [List.length_drop,List.length_take];rfl)) ?_;(with_reducible refine(impl_Verify.calls kj38 _ _ qb _ _ qa _ _ qw ql _ ?side1 ?side2 ?side3 ?side4 ?side5 ?side6 A56.out).mono ?_);(case side1=>repeat(first|exact(Ok qh.out).2.2|(with_reducible refine Oo ?_ _)|(with_reducible refine Op ?_ _)|(with_reducible refine Oj ?_)));(case side2=>exact(Ok qh.out).2.1);(case side3=>repeat(first|exact(Ok qg.out).2.2|(with_reducible refine Oo ?_ _)|(with_reducible refine Op ?_ _)|(with_reducible refine Oj ?_)));(case side4=>exact(Ok qg.out).2.1);(case side5=>repeat(first|exact(Oq qi.out).2.2|(with_reducible refine Oo ?_ _)|(with_reducible refine Op ?_ _)|(with_reducible refine Oj ?_)));(case side6=>rw [show qw.length=qq.length from(Oq qi.out).1.symm];exact(Oq qi.out).2.1);rintro e w72 ⟨v393,rfl,yi,hb⟩;refine⟨_,rfl,?_⟩;have qs:=Oa (On (by(with_reducible repeat(first|apply Od|apply Oc|apply Ob));exact qg.out) hb);have qt:=Oa (Kd.N_elder' (by(with_reducible repeat(first|apply Om|apply Ol|apply Of));exact qm.out) (Os yi) hb);have qu:=Oa (On (by(with_reducible repeat(first|apply Od|apply Oc|apply Ob));exact qh.out) hb);have qv:=Oa (Kd.N_elder' (by(with_reducible repeat(first|apply Om|apply Ol|apply Of));exact qi.out) (Os yi) hb);have yd:=Oa (Kd.V_elder' (by(with_reducible repeat(first|apply Kd.V_alloc|apply Kd.V_drewN|apply Kd.V_drew));exact qe.out) (Os yi) hb);have ym:=Oa (Kd.R_lower yi (Ov (by repeat(first|(with_reducible first|exact HB.out|apply Oi|apply Oe|apply Oh)|exact HB.out))));have yv:=Oa (below_step (by repeat(first|(with_reducible first|exact HB.out|apply Oi|apply Oe|apply Oh)|exact HB.out)) hb);clear qg;clear qm;clear qh;clear qi;clear qe;clear HB;have qg:=qs;have qm:=qt;have qh:=qu;have qi:=qv;have qe:=yd;have yb:=ym;have HB:=yv;clear qs qt qu qv yd ym yv;(try clear hb);(try clear hb2);(try clear hk);(try clear hi);(try clear yi))|((with_reducible refine Ot (f:=50) rfl ?_);refine goesL_ (some 135) rfl rfl Try.func50 (by kernel_rfl) rfl #[.slice ya qa.length yc,.slice (some ⟨yo,0,none⟩) qw.length yw] rfl (by(try simp only [List.map_toArray,List.map_cons,List.map_nil]);first|done|(rw [show qw.length=qq.length from(Oq qi.out).1.symm] <;> rfl)|rfl|(simp only [List.length_drop,List.length_take];rfl)) ?_;(with_reducible refine(impl_Pack.calls kj38 _ _ qa _ _ qw t395 t396 _ ?side1 ?side2 ?side3 ?side4 A57.out).mono ?_);(case side1=>repeat(first|exact(Ok qg.out).2.2|(with_reducible refine Oo ?_ _)|(with_reducible refine Op ?_ _)|(with_reducible refine Oj ?_)));(case side2=>exact(Ok qg.out).2.1);(case side3=>repeat(first|exact(Oq qi.out).2.2|(with_reducible refine Oo ?_ _)|(with_reducible refine Op ?_ _)|(with_reducible refine Oj ?_)));(case side4=>rw [show qw.length=qq.length from(Oq qi.out).1.symm];exact(Oq qi.out).2.1);rintro e w73 ⟨v397,rfl,yi,hb⟩;refine⟨_,rfl,?_⟩;have qs:=Oa (On (by(with_reducible repeat(first|apply Od|apply Oc|apply Ob));exact qg.out) hb);have qt:=Oa (Kd.N_elder' (by(with_reducible repeat(first|apply Om|apply Ol|apply Of));exact qm.out) (Os yi) hb);have qu:=Oa (Kd.R_elder' (by(with_reducible repeat(first|apply Od|apply Oc|apply Ob));exact qh.out) (Os yi) hb);have qv:=Oa (Kd.N_elder' (by(with_reducible repeat(first|apply Om|apply Ol|apply Of));exact qi.out) (Os yi) hb);have yd:=Oa (Kd.V_elder' (by(with_reducible repeat(first|apply Kd.V_alloc|apply Kd.V_drewN|apply Kd.V_drew));exact qe.out) (Os yi) hb);have ym:=Oa (On (by(with_reducible repeat(first|apply Od|apply Oc|apply Ob));exact yb.out) hb);have yv:=Oa (Kd.R_lower (Kd.R_new' yi (Kd.R_lt (by(with_reducible repeat(first|apply Od|apply Oc|apply Ob));exact qh.out))) (Ov (by repeat(first|(with_reducible first|exact HB.out|apply Oi|apply Oe|apply Oh)|exact HB.out))));have n7_:=Oa (below_step (by repeat(first|(with_reducible first|exact HB.out|apply Oi|apply Oe|apply Oh)|exact HB.out)) hb);clear qg;clear qm;clear qh;clear qi;clear qe;clear yb;clear HB;have qg:=qs;have qm:=qt;have qh:=qu;have qi:=qv;have qe:=yd;have yb:=ym;have yh:=yv;have HB:=n7_;clear qs qt qu qv yd ym yv n7_;(try clear hb);(try clear hb2);(try clear hk);(try clear hi);(try clear yi);obtain⟨Ao74,co74,eo74⟩:=Ou yh.out;subst eo74)|((with_reducible refine Ot (f:=32) rfl ?_);refine goesL_ (some 141) rfl rfl Try.func32 (by kernel_rfl) rfl #[.slice qx qb.length qz,.slice Ao74 t395.length co74] rfl (by(try simp only [List.map_toArray,List.map_cons,List.map_nil]);first|done|rfl|(simp only [List.length_drop,List.length_take];rfl)) ?_;(with_reducible refine(impl_Update.calls kj38 _ _ qb _ _ t395 yp t400 _ ?side1 ?side2 ?side3 ?side4 A58.out).mono ?_);(case side1=>repeat(first|exact(Ok qh.out).2.2|(with_reducible refine Oo ?_ _)|(with_reducible refine Op ?_ _)|(with_reducible refine Oj ?_)));(case side2=>exact(Ok qh.out).2.1);(case side3=>repeat(first|exact(Ok yh.out).2.2|(with_reducible refine Oo ?_ _)|(with_reducible refine Op ?_ _)|(with_reducible refine Oj ?_)));(case side4=>exact(Ok yh.out).2.1);rintro e w75 ⟨v401,v403,rfl,yi,ho1,hb⟩;refine⟨_,rfl,?_⟩;have qs:=Oa (Kd.R_mono (Kd.R_told (Kd.R_told (Kd.R_old (by(with_reducible repeat(first|apply Od|apply Oc|apply Ob));exact qg.out) hb) (Os yi)) (Os ho1)) (fun _ h_=>h_.1));have qt:=Oa (Kd.N_mono (Kd.N_told (Kd.N_told (Kd.N_old (by(with_reducible repeat(first|apply Om|apply Ol|apply Of));exact qm.out) hb) (Os yi)) (Os ho1)) (fun _ h_=>h_.1));have qu:=Oa (On (by(with_reducible repeat(first|apply Od|apply Oc|apply Ob));exact qh.out) hb);have qv:=Oa (Kd.N_mono (Kd.N_told (Kd.N_told (Kd.N_old (by(with_reducible repeat(first|apply Om|apply Ol|apply Of));exact qi.out) hb) (Os yi)) (Os ho1)) (fun _ h_=>h_.1));have yd:=Oa (Kd.V_mono (Kd.V_told (Kd.V_told (Kd.V_old (by(with_reducible repeat(first|apply Kd.V_alloc|apply Kd.V_drewN|apply Kd.V_drew));exact qe.out) hb) (Os yi)) (Os ho1)) (fun _ h_=>h_.1));have ym:=Oa (On (by(with_reducible repeat(first|apply Od|apply Oc|apply Ob));exact yb.out) hb);have yv:=Oa (On (by(with_reducible repeat(first|apply Od|apply Oc|apply Ob));exact yh.out) hb);have n7_:=Oa (Kd.R_lower (Kd.R_new' yi (Kd.R_lt (by(with_reducible repeat(first|apply Od|apply Oc|apply Ob));exact qg.out))) (Ov (by repeat(first|(with_reducible first|exact HB.out|apply Oi|apply Oe|apply Oh)|exact HB.out))));have n8_:=Oa (Kd.R_lower (Kd.R_new' ho1 (Kd.R_lt (by(with_reducible repeat(first|apply Od|apply Oc|apply Ob));exact qg.out))) (Ov (by repeat(first|(with_reducible first|exact HB.out|apply Oi|apply Oe|apply Oh)|exact HB.out))));have n9_:=Oa (below_step (by repeat(first|(with_reducible first|exact HB.out|apply Oi|apply Oe|apply Oh)|exact HB.out)) hb);clear qg;clear qm;clear qh;clear qi;clear qe;clear yb;clear yh;clear HB;have qg:=qs;have qm:=qt;have qh:=qu;have qi:=qv;have qe:=yd;have yb:=ym;have yh:=yv;have yj:=n7_;have ys:=n8_;have HB:=n9_;clear qs qt qu qv yd ym yv n7_ n8_ n9_;(try clear hb);(try clear hb2);(try clear hk);(try clear hi);(try clear yi);(try clear ho1)))
                    (try simp only [Act.put,List.setIfInBounds_toArray,List.set_cons_zero,List.set_cons_succ])
                    go_cut [160] (fun v160 wc=>∃ (kq:Nat) (zj:Bool),v160=.bool zj∧Aside0 (laws_FnPacked.j3 kq qa qb ql zj=some true)∧Aside0 (kq≤kj38)∧Aside0 (Kd.R Kd.string 9 wc w.heap.size (fun _=>True) (.slice ya qa.length yc) qa)∧Aside0 (Kd.R k71 71 wc w.heap.size (fun _=>True) (.slice qx qb.length qz) qb)∧Aside0 (Kd.R (Kd.int .i64) 2 wc w.heap.size (fun _=>True) v393 ql)∧Aside0 (Below w.heap.size w wc))
                    case first=>as_aux_lemma=>
                     have H:=HC59.out
                     clear HC59
                     by_cases c76:(yp.length:Int)=1
                     ·rw [if_pos c76] at H
                      have zn:((yp.length:Int) == 1)=true:=beq_iff_eq.mpr c76
                      have c76b1:((yp.length:Int) != 1)=false:=bne_eq_false_iff_eq.mpr c76
                      clear c76
                      (first|rw [zn]|(simp only [i64_w,i32_w];rw [zn])|skip)
                      by_cases c77:0 < (yp.length:Int)
                      ·rw [if_pos c77] at H
                       have c77b0:decide (0 < (yp.length:Int))=true:=decide_eq_true c77
                       have c77b1:decide (0 < yp.length)=true:=decide_eq_true (by omega)
                       clear c77
                       by_cases c78:0 < (qa.length:Int)
                       ·rw [if_pos c78] at H
                        have c78b0:decide (0 < (qa.length:Int))=true:=decide_eq_true c78
                        have c78b1:decide (0 < qa.length)=true:=decide_eq_true (by omega)
                        clear c78
                        by_cases c79:(rdOf ByteArray.empty yp 0).toList=(rdOf ByteArray.empty qa 0).toList
                        ·rw [if_pos c79] at H
                         have c79b0:((rdOf ByteArray.empty yp 0).toList == (rdOf ByteArray.empty qa 0).toList)=true:=beq_iff_eq.mpr c79
                         have c79b1:((rdOf ByteArray.empty yp 0).toList != (rdOf ByteArray.empty qa 0).toList)=false:=bne_eq_false_iff_eq.mpr c79
                         clear c79
                         have H':=Oa H
                         clear H
                         try go_wp2
                         have qs:=Oa (Ob qg.out)
                         have qt:=Oa (Of qm.out)
                         have qu:=Oa (Ob qh.out)
                         have qv:=Oa (Of qi.out)
                         have yd:=Oa (Kd.V_drew qe.out)
                         have ym:=Oa (Ob yb.out)
                         have yv:=Oa (Ob yh.out)
                         have n7_:=Oa (Ob yj.out)
                         have n8_:=Oa (Ob ys.out)
                         have n9_:=Oa (Oh HB.out)
                         clear qg
                         clear qm
                         clear qh
                         clear qi
                         clear qe
                         clear yb
                         clear yh
                         clear yj
                         clear ys
                         clear HB
                         have qg:=qs
                         have qm:=qt
                         have qh:=qu
                         have qi:=qv
                         have qe:=yd
                         have yb:=ym
                         have yh:=yv
                         have yj:=n7_
                         have ys:=n8_
                         have HB:=n9_
                         clear qs qt qu qv yd ym yv n7_ n8_ n9_
                         obtain⟨Ao81,co81,eo81⟩:=Ou yj.out
                         (first|subst eo81|(injection eo81 with f1_ f2_ f3_;have f4_:=f1_.symm;have f5_:=f3_.symm;clear f1_ f2_ f3_;subst f4_;subst f5_))
                         have p405:0≤(0:Int):=(by omega)
                         have q405:0 < (yp.length:Int):=of_decide_eq_true (by first|(with_reducible assumption)|assumption)
                         obtain⟨ad405,e405,yf⟩:=Kd.at_string (Ok yj.out).2.2 0 p405 q405
                         cases e405
                         have qi405:(0 < yp.length)=True:=eq_true (by omega)
                         (try rw [show((0:Int)).toNat=0 from rfl] at yf)
                         (try rw [Addr.add_zero'] at yf)
                         replace p405:=eq_true p405
                         replace q405:=eq_true q405
                         have p406:0≤(0:Int):=(by omega)
                         have q406:0 < (qa.length:Int):=of_decide_eq_true (by first|(with_reducible assumption)|assumption)
                         obtain⟨ad406,e406,yg⟩:=Kd.at_string (Ok qg.out).2.2 0 p406 q406
                         cases e406
                         have qi406:(0 < qa.length)=True:=eq_true (by omega)
                         (try rw [show((0:Int)).toNat=0 from rfl] at yg)
                         (try rw [Addr.add_zero'] at yg)
                         replace p406:=eq_true p406
                         replace q406:=eq_true q406
                         obtain⟨Ao82,co82,eo82⟩:=Ou ys.out
                         (first|subst eo82|(injection eo82 with f1_ f2_ f3_;have f4_:=f1_.symm;have f5_:=f3_.symm;clear f1_ f2_ f3_;subst f4_;subst f5_))
                         refine start_ (n:=17) (S:=fun w'=>w'.cell? ad405=some (.string (rdOf ByteArray.empty yp 0))∧w'.cell? ad406=some (.string (rdOf ByteArray.empty qa 0))) (ds:=[]) #[false,false,false,false,false,false,false,false,false,false,false,false,false,false,false,false,false] (by kernel_rfl) rfl rfl ⟨yf,yg⟩ (fun hHeld=>?_);refine with_tabW laws_FnPacked.tab30 laws_FnPacked.bits30 (fun HT_ HW_=>?_)
                         generalize w75.drew=w80 at qg qm qh qi qe yb yh yj ys HB yf yg hHeld ⊢
                         refine pure_ (i:=0) (N:=some 144) (v:=?_) (a':=?_) #[true,false,false,false,false,false,false,false,false,false,false,false,false,false,false,false,false] rfl rfl (Og HT_.out (by kernel_rfl)) (fun _ _ _ h=>h) (Or.inl ⟨by rfl,?_⟩) ?_ ?_
                         rotate_left
                         ·intro w'
                          go_simp
                          with_reducible rfl
                         rotate_left
                         ·simp only [Act.put,List.setIfInBounds_toArray,List.set_cons_zero,List.set_cons_succ,i64_w,i32_w]
                          rfl
                         refine pure_ (i:=1) (N:=some 145) (v:=?_) (a':=?_) #[true,true,false,false,false,false,false,false,false,false,false,false,false,false,false,false,false] rfl rfl (Og HT_.out (by kernel_rfl)) (fun _ _ _ h=>h) (Or.inl ⟨by rfl,?_⟩) ?_ ?_
                         rotate_left
                         ·intro w'
                          go_simp
                          with_reducible rfl
                         rotate_left
                         ·simp only [Act.put,List.setIfInBounds_toArray,List.set_cons_zero,List.set_cons_succ,i64_w,i32_w]
                          rfl
                         refine pure_ (i:=2) (N:=some 146) (v:=?_) (a':=?_) #[true,true,true,false,false,false,false,false,false,false,false,false,false,false,false,false,false] rfl rfl (Og HT_.out (by kernel_rfl)) (fun _ _ _ h=>h) (Or.inl ⟨by rfl,?_⟩) ?_ ?_
                         rotate_left
                         ·intro w'
                          go_simp
                          with_reducible rfl
                         rotate_left
                         ·simp only [Act.put,List.setIfInBounds_toArray,List.set_cons_zero,List.set_cons_succ,i64_w,i32_w]
                          rfl
                         refine pure_ (i:=3) (N:=some 147) (v:=?_) (a':=?_) #[true,true,true,true,false,false,false,false,false,false,false,false,false,false,false,false,false] rfl rfl (Og HT_.out (by kernel_rfl)) (fun _ _ _ h=>h) (Or.inl ⟨by rfl,?_⟩) ?_ ?_
                         rotate_left
                         ·intro w'
                          go_simp
                          with_reducible rfl
                         rotate_left
                         ·simp only [Act.put,List.setIfInBounds_toArray,List.set_cons_zero,List.set_cons_succ,i64_w,i32_w]
                          rfl
                         refine pure_ (i:=4) (N:=some 148) (v:=?_) (a':=?_) #[true,true,true,true,true,false,false,false,false,false,false,false,false,false,false,false,false] rfl rfl (Og HT_.out (by kernel_rfl)) (fun _ _ _ h=>h) (Or.inl ⟨by rfl,?_⟩) ?_ ?_
                         rotate_left
                         ·intro w'
                          go_simp
                          with_reducible rfl
                         rotate_left
                         ·simp only [Act.put,List.setIfInBounds_toArray,List.set_cons_zero,List.set_cons_succ,i64_w,i32_w]
                          rfl
                         refine pure_ (i:=5) (N:=some 149) (v:=?_) (a':=?_) #[true,true,true,true,true,true,false,false,false,false,false,false,false,false,false,false,false] rfl rfl (Og HT_.out (by kernel_rfl)) (fun _ _ _ h=>h) (Or.inl ⟨by rfl,?_⟩) ?_ ?_
                         rotate_left
                         ·intro w'
                          go_simp
                          with_reducible rfl
                         rotate_left
                         ·simp only [Act.put,List.setIfInBounds_toArray,List.set_cons_zero,List.set_cons_succ,i64_w,i32_w]
                          rfl
                         refine pure_ (i:=7) (N:=some 151) (v:=?_) (a':=?_) #[true,true,true,true,true,true,false,true,false,false,false,false,false,false,false,false,false] rfl rfl (Og HT_.out (by kernel_rfl)) (fun _ _ _ h=>h) (Or.inl ⟨by rfl,?_⟩) ?_ ?_
                         rotate_left
                         ·intro w'
                          go_simp
                          with_reducible rfl
                         rotate_left
                         ·simp only [Act.put,List.setIfInBounds_toArray,List.set_cons_zero,List.set_cons_succ,i64_w,i32_w]
                          rfl
                         refine pure_ (i:=8) (N:=some 152) (v:=?_) (a':=?_) #[true,true,true,true,true,true,false,true,true,false,false,false,false,false,false,false,false] rfl rfl (Og HT_.out (by kernel_rfl)) (fun _ _ _ h=>h) (Or.inl ⟨by rfl,?_⟩) ?_ ?_
                         rotate_left
                         ·intro w'
                          go_simp
                          with_reducible rfl
                         rotate_left
                         ·simp only [Act.put,List.setIfInBounds_toArray,List.set_cons_zero,List.set_cons_succ,i64_w,i32_w]
                          rfl
                         refine take_ (i:=6) (N:=some 150) (v:=?_) (a':=?_) #[true,true,true,true,true,true,true,true,true,false,false,false,false,false,false,false,false] rfl rfl (take_ofW HT_.out HW_.out (by kernel_rfl)) (fun _ _ _ h=>h) (Or.inl ⟨by rfl,?_⟩) hHeld ?_ ?_
                         rotate_left
                         ·rintro w' ⟨s0,s1⟩
                          go_simp
                          with_reducible rfl
                         rotate_left
                         ·simp only [Act.put,List.setIfInBounds_toArray,List.set_cons_zero,List.set_cons_succ,i64_w,i32_w]
                          rfl
                         refine take_ (i:=9) (N:=some 153) (v:=?_) (a':=?_) #[true,true,true,true,true,true,true,true,true,true,false,false,false,false,false,false,false] rfl rfl (take_ofW HT_.out HW_.out (by kernel_rfl)) (fun _ _ _ h=>h) (Or.inl ⟨by rfl,?_⟩) hHeld ?_ ?_
                         rotate_left
                         ·rintro w' ⟨s0,s1⟩
                          go_simp
                          with_reducible rfl
                         rotate_left
                         ·simp only [Act.put,List.setIfInBounds_toArray,List.set_cons_zero,List.set_cons_succ,i64_w,i32_w]
                          rfl
                         refine pure_ (i:=10) (N:=some 154) (v:=?_) (a':=?_) #[true,true,true,true,true,true,true,true,true,true,true,false,false,false,false,false,false] rfl rfl (Og HT_.out (by kernel_rfl)) (fun _ _ _ h=>h) (Or.inl ⟨by rfl,?_⟩) ?_ ?_
                         rotate_left
                         ·intro w'
                          go_simp
                          with_reducible rfl
                         rotate_left
                         ·simp only [Act.put,List.setIfInBounds_toArray,List.set_cons_zero,List.set_cons_succ,i64_w,i32_w]
                          rfl
                         refine pure_ (i:=11) (N:=some 155) (v:=?_) (a':=?_) #[true,true,true,true,true,true,true,true,true,true,true,true,false,false,false,false,false] rfl rfl (Og HT_.out (by kernel_rfl)) (fun _ _ _ h=>h) (Or.inl ⟨by rfl,?_⟩) ?_ ?_
                         rotate_left
                         ·intro w'
                          go_simp
                          with_reducible rfl
                         rotate_left
                         ·simp only [Act.put,List.setIfInBounds_toArray,List.set_cons_zero,List.set_cons_succ,i64_w,i32_w]
                          rfl
                         refine pure_ (i:=12) (N:=some 156) (v:=?_) (a':=?_) #[true,true,true,true,true,true,true,true,true,true,true,true,true,false,false,false,false] rfl rfl (Og HT_.out (by kernel_rfl)) (fun _ _ _ h=>h) (Or.inl ⟨by rfl,?_⟩) ?_ ?_
                         rotate_left
                         ·intro w'
                          go_simp
                          with_reducible rfl
                         rotate_left
                         ·simp only [Act.put,List.setIfInBounds_toArray,List.set_cons_zero,List.set_cons_succ,i64_w,i32_w]
                          rfl
                         refine pure_ (i:=13) (N:=some 157) (v:=?_) (a':=?_) #[true,true,true,true,true,true,true,true,true,true,true,true,true,true,false,false,false] rfl rfl (Og HT_.out (by kernel_rfl)) (fun _ _ _ h=>h) (Or.inl ⟨by rfl,?_⟩) ?_ ?_
                         rotate_left
                         ·intro w'
                          go_simp
                          with_reducible rfl
                         rotate_left
                         ·simp only [Act.put,List.setIfInBounds_toArray,List.set_cons_zero,List.set_cons_succ,i64_w,i32_w]
                          rfl
                         refine pure_ (i:=14) (N:=some 158) (v:=?_) (a':=?_) #[true,true,true,true,true,true,true,true,true,true,true,true,true,true,true,false,false] rfl rfl (Og HT_.out (by kernel_rfl)) (fun _ _ _ h=>h) (Or.inl ⟨by rfl,?_⟩) ?_ ?_
                         rotate_left
                         ·intro w'
                          go_simp
                          with_reducible rfl
                         rotate_left
                         ·simp only [Act.put,List.setIfInBounds_toArray,List.set_cons_zero,List.set_cons_succ,i64_w,i32_w]
                          rfl
                         refine pure_ (i:=15) (N:=some 159) (v:=?_) (a':=?_) #[true,true,true,true,true,true,true,true,true,true,true,true,true,true,true,true,false] rfl rfl (Og HT_.out (by kernel_rfl)) (fun _ _ _ h=>h) (Or.inl ⟨by rfl,?_⟩) ?_ ?_
                         rotate_left
                         ·intro w'
                          go_simp
                          with_reducible rfl
                         rotate_left
                         ·simp only [Act.put,List.setIfInBounds_toArray,List.set_cons_zero,List.set_cons_succ,i64_w,i32_w]
                          rfl
                         refine pure_ (i:=16) (N:=some 160) (v:=?_) (a':=?_) #[true,true,true,true,true,true,true,true,true,true,true,true,true,true,true,true,true] rfl rfl (Og HT_.out (by kernel_rfl)) (fun _ _ _ h=>h) (Or.inl ⟨by rfl,?_⟩) ?_ ?_
                         rotate_left
                         ·intro w'
                          go_simp
                          with_reducible rfl
                         rotate_left
                         ·simp only [Act.put,List.setIfInBounds_toArray,List.set_cons_zero,List.set_cons_succ,i64_w,i32_w]
                          rfl
                         refine done_ (done_of HT_.out (by kernel_rfl)) ?_
                         try go_wp2
                         go_meet
                         case rel=>exact⟨_,(((t400.length:Int) != 0)),(by first|rfl|(simp;done)|(simp [*];done)),H',⟨by have:=zl.out;have:=HK2.out;have:=HJ38.out;first|omega|exact Nat.le_refl _⟩,⟨by(with_reducible repeat(first|apply Od|apply Oc|apply Ob));exact Kd.R_mono qg.out (fun _ hk=>trivial)⟩,⟨by(with_reducible repeat(first|apply Od|apply Oc|apply Ob));exact Kd.R_mono qh.out (fun _ hk=>trivial)⟩,⟨by(with_reducible repeat(first|apply Od|apply Oc|apply Ob));exact yb.out⟩,⟨by repeat(first|(with_reducible first|exact HB.out|apply Oi|apply Oe|apply Oh)|exact HB.out)⟩⟩
                        ·rw [if_neg c79] at H
                         have c79b0:((rdOf ByteArray.empty yp 0).toList == (rdOf ByteArray.empty qa 0).toList)=false:=beq_eq_false_iff_ne.mpr c79
                         have c79b1:((rdOf ByteArray.empty yp 0).toList != (rdOf ByteArray.empty qa 0).toList)=true:=bne_iff_ne.mpr c79
                         have H':=Oa H
                         clear H
                         try go_wp2
                         have qs:=Oa (Ob qg.out)
                         have qt:=Oa (Of qm.out)
                         have qu:=Oa (Ob qh.out)
                         have qv:=Oa (Of qi.out)
                         have yd:=Oa (Kd.V_drew qe.out)
                         have ym:=Oa (Ob yb.out)
                         have yv:=Oa (Ob yh.out)
                         have n7_:=Oa (Ob yj.out)
                         have n8_:=Oa (Ob ys.out)
                         have n9_:=Oa (Oh HB.out)
                         clear qg
                         clear qm
                         clear qh
                         clear qi
                         clear qe
                         clear yb
                         clear yh
                         clear yj
                         clear ys
                         clear HB
                         have qg:=qs
                         have qm:=qt
                         have qh:=qu
                         have qi:=qv
                         have qe:=yd
                         have yb:=ym
                         have yh:=yv
                         have yj:=n7_
                         have ys:=n8_
                         have HB:=n9_
                         clear qs qt qu qv yd ym yv n7_ n8_ n9_
                         obtain⟨Ao84,co84,eo84⟩:=Ou yj.out
                         (first|subst eo84|(injection eo84 with f1_ f2_ f3_;have f4_:=f1_.symm;have f5_:=f3_.symm;clear f1_ f2_ f3_;subst f4_;subst f5_))
                         have p405:0≤(0:Int):=(by omega)
                         have q405:0 < (yp.length:Int):=of_decide_eq_true (by first|(with_reducible assumption)|assumption)
                         obtain⟨ad405,e405,yf⟩:=Kd.at_string (Ok yj.out).2.2 0 p405 q405
                         cases e405
                         have qi405:(0 < yp.length)=True:=eq_true (by omega)
                         (try rw [show((0:Int)).toNat=0 from rfl] at yf)
                         (try rw [Addr.add_zero'] at yf)
                         replace p405:=eq_true p405
                         replace q405:=eq_true q405
                         have p406:0≤(0:Int):=(by omega)
                         have q406:0 < (qa.length:Int):=of_decide_eq_true (by first|(with_reducible assumption)|assumption)
                         obtain⟨ad406,e406,yg⟩:=Kd.at_string (Ok qg.out).2.2 0 p406 q406
                         cases e406
                         have qi406:(0 < qa.length)=True:=eq_true (by omega)
                         (try rw [show((0:Int)).toNat=0 from rfl] at yg)
                         (try rw [Addr.add_zero'] at yg)
                         replace p406:=eq_true p406
                         replace q406:=eq_true q406
                         refine start_ (n:=17) (S:=fun w'=>w'.cell? ad405=some (.string (rdOf ByteArray.empty yp 0))∧w'.cell? ad406=some (.string (rdOf ByteArray.empty qa 0))) (ds:=[]) #[false,false,false,false,false,false,false,false,false,false,false,false,false,false,false,false,false] (by kernel_rfl) rfl rfl ⟨yf,yg⟩ (fun hHeld=>?_);refine with_tabW laws_FnPacked.tab30 laws_FnPacked.bits30 (fun HT_ HW_=>?_)
                         generalize w75.drew=w83 at qg qm qh qi qe yb yh yj ys HB yf yg hHeld ⊢
                         refine pure_ (i:=0) (N:=some 144) (v:=?_) (a':=?_) #[true,false,false,false,false,false,false,false,false,false,false,false,false,false,false,false,false] rfl rfl (Og HT_.out (by kernel_rfl)) (fun _ _ _ h=>h) (Or.inl ⟨by rfl,?_⟩) ?_ ?_
                         rotate_left
                         ·intro w'
                          go_simp
                          with_reducible rfl
                         rotate_left
                         ·simp only [Act.put,List.setIfInBounds_toArray,List.set_cons_zero,List.set_cons_succ,i64_w,i32_w]
                          rfl
                         refine pure_ (i:=1) (N:=some 145) (v:=?_) (a':=?_) #[true,true,false,false,false,false,false,false,false,false,false,false,false,false,false,false,false] rfl rfl (Og HT_.out (by kernel_rfl)) (fun _ _ _ h=>h) (Or.inl ⟨by rfl,?_⟩) ?_ ?_
                         rotate_left
                         ·intro w'
                          go_simp
                          with_reducible rfl
                         rotate_left
                         ·simp only [Act.put,List.setIfInBounds_toArray,List.set_cons_zero,List.set_cons_succ,i64_w,i32_w]
                          rfl
                         refine pure_ (i:=2) (N:=some 146) (v:=?_) (a':=?_) #[true,true,true,false,false,false,false,false,false,false,false,false,false,false,false,false,false] rfl rfl (Og HT_.out (by kernel_rfl)) (fun _ _ _ h=>h) (Or.inl ⟨by rfl,?_⟩) ?_ ?_
                         rotate_left
                         ·intro w'
                          go_simp
                          with_reducible rfl
                         rotate_left
                         ·simp only [Act.put,List.setIfInBounds_toArray,List.set_cons_zero,List.set_cons_succ,i64_w,i32_w]
                          rfl
                         refine pure_ (i:=3) (N:=some 147) (v:=?_) (a':=?_) #[true,true,true,true,false,false,false,false,false,false,false,false,false,false,false,false,false] rfl rfl (Og HT_.out (by kernel_rfl)) (fun _ _ _ h=>h) (Or.inl ⟨by rfl,?_⟩) ?_ ?_
                         rotate_left
                         ·intro w'
                          go_simp
                          with_reducible rfl
                         rotate_left
                         ·simp only [Act.put,List.setIfInBounds_toArray,List.set_cons_zero,List.set_cons_succ,i64_w,i32_w]
                          rfl
                         refine pure_ (i:=4) (N:=some 148) (v:=?_) (a':=?_) #[true,true,true,true,true,false,false,false,false,false,false,false,false,false,false,false,false] rfl rfl (Og HT_.out (by kernel_rfl)) (fun _ _ _ h=>h) (Or.inl ⟨by rfl,?_⟩) ?_ ?_
                         rotate_left
                         ·intro w'
                          go_simp
                          with_reducible rfl
                         rotate_left
                         ·simp only [Act.put,List.setIfInBounds_toArray,List.set_cons_zero,List.set_cons_succ,i64_w,i32_w]
                          rfl
                         refine pure_ (i:=5) (N:=some 149) (v:=?_) (a':=?_) #[true,true,true,true,true,true,false,false,false,false,false,false,false,false,false,false,false] rfl rfl (Og HT_.out (by kernel_rfl)) (fun _ _ _ h=>h) (Or.inl ⟨by rfl,?_⟩) ?_ ?_
                         rotate_left
                         ·intro w'
                          go_simp
                          with_reducible rfl
                         rotate_left
                         ·simp only [Act.put,List.setIfInBounds_toArray,List.set_cons_zero,List.set_cons_succ,i64_w,i32_w]
                          rfl
                         refine pure_ (i:=7) (N:=some 151) (v:=?_) (a':=?_) #[true,true,true,true,true,true,false,true,false,false,false,false,false,false,false,false,false] rfl rfl (Og HT_.out (by kernel_rfl)) (fun _ _ _ h=>h) (Or.inl ⟨by rfl,?_⟩) ?_ ?_
                         rotate_left
                         ·intro w'
                          go_simp
                          with_reducible rfl
                         rotate_left
                         ·simp only [Act.put,List.setIfInBounds_toArray,List.set_cons_zero,List.set_cons_succ,i64_w,i32_w]
                          rfl
                         refine pure_ (i:=8) (N:=some 152) (v:=?_) (a':=?_) #[true,true,true,true,true,true,false,true,true,false,false,false,false,false,false,false,false] rfl rfl (Og HT_.out (by kernel_rfl)) (fun _ _ _ h=>h) (Or.inl ⟨by rfl,?_⟩) ?_ ?_
                         rotate_left
                         ·intro w'
                          go_simp
                          with_reducible rfl
                         rotate_left
                         ·simp only [Act.put,List.setIfInBounds_toArray,List.set_cons_zero,List.set_cons_succ,i64_w,i32_w]
                          rfl
                         refine take_ (i:=6) (N:=some 150) (v:=?_) (a':=?_) #[true,true,true,true,true,true,true,true,true,false,false,false,false,false,false,false,false] rfl rfl (take_ofW HT_.out HW_.out (by kernel_rfl)) (fun _ _ _ h=>h) (Or.inl ⟨by rfl,?_⟩) hHeld ?_ ?_
                         rotate_left
                         ·rintro w' ⟨s0,s1⟩
                          go_simp
                          with_reducible rfl
                         rotate_left
                         ·simp only [Act.put,List.setIfInBounds_toArray,List.set_cons_zero,List.set_cons_succ,i64_w,i32_w]
                          rfl
                         refine take_ (i:=9) (N:=some 153) (v:=?_) (a':=?_) #[true,true,true,true,true,true,true,true,true,true,false,false,false,false,false,false,false] rfl rfl (take_ofW HT_.out HW_.out (by kernel_rfl)) (fun _ _ _ h=>h) (Or.inl ⟨by rfl,?_⟩) hHeld ?_ ?_
                         rotate_left
                         ·rintro w' ⟨s0,s1⟩
                          go_simp
                          with_reducible rfl
                         rotate_left
                         ·simp only [Act.put,List.setIfInBounds_toArray,List.set_cons_zero,List.set_cons_succ,i64_w,i32_w]
                          rfl
                         refine pure_ (i:=10) (N:=some 154) (v:=?_) (a':=?_) #[true,true,true,true,true,true,true,true,true,true,true,false,false,false,false,false,false] rfl rfl (Og HT_.out (by kernel_rfl)) (fun _ _ _ h=>h) (Or.inl ⟨by rfl,?_⟩) ?_ ?_
                         rotate_left
                         ·intro w'
                          go_simp
                          with_reducible rfl
                         rotate_left
                         ·simp only [Act.put,List.setIfInBounds_toArray,List.set_cons_zero,List.set_cons_succ,i64_w,i32_w]
                          rfl
                         refine pure_ (i:=11) (N:=some 155) (v:=?_) (a':=?_) #[true,true,true,true,true,true,true,true,true,true,true,true,false,false,false,false,false] rfl rfl (Og HT_.out (by kernel_rfl)) (fun _ _ _ h=>h) (Or.inl ⟨by rfl,?_⟩) ?_ ?_
                         rotate_left
                         ·intro w'
                          go_simp
                          with_reducible rfl
                         rotate_left
                         ·simp only [Act.put,List.setIfInBounds_toArray,List.set_cons_zero,List.set_cons_succ,i64_w,i32_w]
                          rfl
                         refine pure_ (i:=12) (N:=some 156) (v:=?_) (a':=?_) #[true,true,true,true,true,true,true,true,true,true,true,true,true,false,false,false,false] rfl rfl (Og HT_.out (by kernel_rfl)) (fun _ _ _ h=>h) (Or.inl ⟨by rfl,?_⟩) ?_ ?_
                         rotate_left
                         ·intro w'
                          go_simp
                          with_reducible rfl
                         rotate_left
                         ·simp only [Act.put,List.setIfInBounds_toArray,List.set_cons_zero,List.set_cons_succ,i64_w,i32_w]
                          rfl
                         refine pure_ (i:=13) (N:=some 157) (v:=undef) (a':=?_) #[true,true,true,true,true,true,true,true,true,true,true,true,true,true,false,false,false] rfl rfl (Og HT_.out (by kernel_rfl)) (fun _ _ _ h=>h) (Or.inr ⟨by rfl,rfl⟩) ?_ ?_
                         rotate_left
                         ·simp only [Act.put,List.setIfInBounds_toArray,List.set_cons_zero,List.set_cons_succ,i64_w,i32_w]
                          rfl
                         refine pure_ (i:=14) (N:=some 158) (v:=undef) (a':=?_) #[true,true,true,true,true,true,true,true,true,true,true,true,true,true,true,false,false] rfl rfl (Og HT_.out (by kernel_rfl)) (fun _ _ _ h=>h) (Or.inr ⟨by rfl,rfl⟩) ?_ ?_
                         rotate_left
                         ·simp only [Act.put,List.setIfInBounds_toArray,List.set_cons_zero,List.set_cons_succ,i64_w,i32_w]
                          rfl
                         refine pure_ (i:=15) (N:=some 159) (v:=undef) (a':=?_) #[true,true,true,true,true,true,true,true,true,true,true,true,true,true,true,true,false] rfl rfl (Og HT_.out (by kernel_rfl)) (fun _ _ _ h=>h) (Or.inr ⟨by rfl,rfl⟩) ?_ ?_
                         rotate_left
                         ·simp only [Act.put,List.setIfInBounds_toArray,List.set_cons_zero,List.set_cons_succ,i64_w,i32_w]
                          rfl
                         refine pure_ (i:=16) (N:=some 160) (v:=?_) (a':=?_) #[true,true,true,true,true,true,true,true,true,true,true,true,true,true,true,true,true] rfl rfl (Og HT_.out (by kernel_rfl)) (fun _ _ _ h=>h) (Or.inl ⟨by rfl,?_⟩) ?_ ?_
                         rotate_left
                         ·intro w'
                          go_simp
                          with_reducible rfl
                         rotate_left
                         ·simp only [Act.put,List.setIfInBounds_toArray,List.set_cons_zero,List.set_cons_succ,i64_w,i32_w]
                          rfl
                         refine done_ (done_of HT_.out (by kernel_rfl)) ?_
                         try go_wp2
                         go_meet
                         case rel=>exact⟨_,(true),(by first|rfl|(simp;done)|(simp [*];done)),H',⟨by have:=zl.out;have:=HK2.out;have:=HJ38.out;first|omega|exact Nat.le_refl _⟩,⟨by(with_reducible repeat(first|apply Od|apply Oc|apply Ob));exact Kd.R_mono qg.out (fun _ hk=>trivial)⟩,⟨by(with_reducible repeat(first|apply Od|apply Oc|apply Ob));exact Kd.R_mono qh.out (fun _ hk=>trivial)⟩,⟨by(with_reducible repeat(first|apply Od|apply Oc|apply Ob));exact yb.out⟩,⟨by repeat(first|(with_reducible first|exact HB.out|apply Oi|apply Oe|apply Oh)|exact HB.out)⟩⟩
                       ·rw [if_neg c78] at H
                        exact absurd H (by simp)
                      ·rw [if_neg c77] at H
                       exact absurd H (by simp)
                     ·rw [if_neg c76] at H
                      have zn:((yp.length:Int) == 1)=false:=beq_eq_false_iff_ne.mpr c76
                      have c76b1:((yp.length:Int) != 1)=true:=bne_iff_ne.mpr c76
                      (first|rw [zn]|(simp only [i64_w,i32_w];rw [zn])|skip)
                      have H':=Oa H
                      clear H
                      try go_wp2
                      have qs:=Oa (Ob qg.out)
                      have qt:=Oa (Of qm.out)
                      have qu:=Oa (Ob qh.out)
                      have qv:=Oa (Of qi.out)
                      have yd:=Oa (Kd.V_drew qe.out)
                      have ym:=Oa (Ob yb.out)
                      have yv:=Oa (Ob yh.out)
                      have n7_:=Oa (Ob yj.out)
                      have n8_:=Oa (Ob ys.out)
                      have n9_:=Oa (Oh HB.out)
                      clear qg
                      clear qm
                      clear qh
                      clear qi
                      clear qe
                      clear yb
                      clear yh
                      clear yj
                      clear ys
                      clear HB
                      have qg:=qs
                      have qm:=qt
                      have qh:=qu
                      have qi:=qv
                      have qe:=yd
                      have yb:=ym
                      have yh:=yv
                      have yj:=n7_
                      have ys:=n8_
                      have HB:=n9_
                      clear qs qt qu qv yd ym yv n7_ n8_ n9_
                      obtain⟨Ao86,co86,eo86⟩:=Ou yj.out
                      (first|subst eo86|(injection eo86 with f1_ f2_ f3_;have f4_:=f1_.symm;have f5_:=f3_.symm;clear f1_ f2_ f3_;subst f4_;subst f5_))
                      refine start_ (n:=17) (S:=fun w'=>True) (ds:=[]) #[false,false,false,false,false,false,false,false,false,false,false,false,false,false,false,false,false] (by kernel_rfl) rfl rfl trivial (fun hHeld=>?_);refine with_tabW laws_FnPacked.tab30 laws_FnPacked.bits30 (fun HT_ HW_=>?_)
                      generalize w75.drew=w85 at qg qm qh qi qe yb yh yj ys HB hHeld ⊢
                      refine pure_ (i:=0) (N:=some 144) (v:=?_) (a':=?_) #[true,false,false,false,false,false,false,false,false,false,false,false,false,false,false,false,false] rfl rfl (Og HT_.out (by kernel_rfl)) (fun _ _ _ h=>h) (Or.inl ⟨by rfl,?_⟩) ?_ ?_
                      rotate_left
                      ·intro w'
                       go_simp
                       with_reducible rfl
                      rotate_left
                      ·simp only [Act.put,List.setIfInBounds_toArray,List.set_cons_zero,List.set_cons_succ,i64_w,i32_w]
                       rfl
                      refine pure_ (i:=1) (N:=some 145) (v:=?_) (a':=?_) #[true,true,false,false,false,false,false,false,false,false,false,false,false,false,false,false,false] rfl rfl (Og HT_.out (by kernel_rfl)) (fun _ _ _ h=>h) (Or.inl ⟨by rfl,?_⟩) ?_ ?_
                      rotate_left
                      ·intro w'
                       go_simp
                       with_reducible rfl
                      rotate_left
                      ·simp only [Act.put,List.setIfInBounds_toArray,List.set_cons_zero,List.set_cons_succ,i64_w,i32_w]
                       rfl
                      refine pure_ (i:=2) (N:=some 146) (v:=?_) (a':=?_) #[true,true,true,false,false,false,false,false,false,false,false,false,false,false,false,false,false] rfl rfl (Og HT_.out (by kernel_rfl)) (fun _ _ _ h=>h) (Or.inl ⟨by rfl,?_⟩) ?_ ?_
                      rotate_left
                      ·intro w'
                       go_simp
                       with_reducible rfl
                      rotate_left
                      ·simp only [Act.put,List.setIfInBounds_toArray,List.set_cons_zero,List.set_cons_succ,i64_w,i32_w]
                       rfl
                      refine pure_ (i:=3) (N:=some 147) (v:=?_) (a':=?_) #[true,true,true,true,false,false,false,false,false,false,false,false,false,false,false,false,false] rfl rfl (Og HT_.out (by kernel_rfl)) (fun _ _ _ h=>h) (Or.inl ⟨by rfl,?_⟩) ?_ ?_
                      rotate_left
                      ·intro w'
                       go_simp
                       with_reducible rfl
                      rotate_left
                      ·simp only [Act.put,List.setIfInBounds_toArray,List.set_cons_zero,List.set_cons_succ,i64_w,i32_w]
                       rfl
                      refine pure_ (i:=4) (N:=some 148) (v:=undef) (a':=?_) #[true,true,true,true,true,false,false,false,false,false,false,false,false,false,false,false,false] rfl rfl (Og HT_.out (by kernel_rfl)) (fun _ _ _ h=>h) (Or.inr ⟨by rfl,rfl⟩) ?_ ?_
                      rotate_left
                      ·simp only [Act.put,List.setIfInBounds_toArray,List.set_cons_zero,List.set_cons_succ,i64_w,i32_w]
                       rfl
                      refine pure_ (i:=5) (N:=some 149) (v:=undef) (a':=?_) #[true,true,true,true,true,true,false,false,false,false,false,false,false,false,false,false,false] rfl rfl (Og HT_.out (by kernel_rfl)) (fun _ _ _ h=>h) (Or.inr ⟨by rfl,rfl⟩) ?_ ?_
                      rotate_left
                      ·simp only [Act.put,List.setIfInBounds_toArray,List.set_cons_zero,List.set_cons_succ,i64_w,i32_w]
                       rfl
                      refine pure_ (i:=6) (N:=some 150) (v:=undef) (a':=?_) #[true,true,true,true,true,true,true,false,false,false,false,false,false,false,false,false,false] rfl rfl (Og HT_.out (by kernel_rfl)) (fun _ _ _ h=>h) (Or.inr ⟨by rfl,rfl⟩) ?_ ?_
                      rotate_left
                      ·simp only [Act.put,List.setIfInBounds_toArray,List.set_cons_zero,List.set_cons_succ,i64_w,i32_w]
                       rfl
                      refine pure_ (i:=7) (N:=some 151) (v:=undef) (a':=?_) #[true,true,true,true,true,true,true,true,false,false,false,false,false,false,false,false,false] rfl rfl (Og HT_.out (by kernel_rfl)) (fun _ _ _ h=>h) (Or.inr ⟨by rfl,rfl⟩) ?_ ?_
                      rotate_left
                      ·simp only [Act.put,List.setIfInBounds_toArray,List.set_cons_zero,List.set_cons_succ,i64_w,i32_w]
                       rfl
                      refine pure_ (i:=8) (N:=some 152) (v:=undef) (a':=?_) #[true,true,true,true,true,true,true,true,true,false,false,false,false,false,false,false,false] rfl rfl (Og HT_.out (by kernel_rfl)) (fun _ _ _ h=>h) (Or.inr ⟨by rfl,rfl⟩) ?_ ?_
                      rotate_left
                      ·simp only [Act.put,List.setIfInBounds_toArray,List.set_cons_zero,List.set_cons_succ,i64_w,i32_w]
                       rfl
                      refine pure_ (i:=9) (N:=some 153) (v:=undef) (a':=?_) #[true,true,true,true,true,true,true,true,true,true,false,false,false,false,false,false,false] rfl rfl (Og HT_.out (by kernel_rfl)) (fun _ _ _ h=>h) (Or.inr ⟨by rfl,rfl⟩) ?_ ?_
                      rotate_left
                      ·simp only [Act.put,List.setIfInBounds_toArray,List.set_cons_zero,List.set_cons_succ,i64_w,i32_w]
                       rfl
                      refine pure_ (i:=10) (N:=some 154) (v:=undef) (a':=?_) #[true,true,true,true,true,true,true,true,true,true,true,false,false,false,false,false,false] rfl rfl (Og HT_.out (by kernel_rfl)) (fun _ _ _ h=>h) (Or.inr ⟨by rfl,rfl⟩) ?_ ?_
                      rotate_left
                      ·simp only [Act.put,List.setIfInBounds_toArray,List.set_cons_zero,List.set_cons_succ,i64_w,i32_w]
                       rfl
                      refine pure_ (i:=11) (N:=some 155) (v:=?_) (a':=?_) #[true,true,true,true,true,true,true,true,true,true,true,true,false,false,false,false,false] rfl rfl (Og HT_.out (by kernel_rfl)) (fun _ _ _ h=>h) (Or.inl ⟨by rfl,?_⟩) ?_ ?_
                      rotate_left
                      ·intro w'
                       go_simp
                       with_reducible rfl
                      rotate_left
                      ·simp only [Act.put,List.setIfInBounds_toArray,List.set_cons_zero,List.set_cons_succ,i64_w,i32_w]
                       rfl
                      refine pure_ (i:=12) (N:=some 156) (v:=?_) (a':=?_) #[true,true,true,true,true,true,true,true,true,true,true,true,true,false,false,false,false] rfl rfl (Og HT_.out (by kernel_rfl)) (fun _ _ _ h=>h) (Or.inl ⟨by rfl,?_⟩) ?_ ?_
                      rotate_left
                      ·intro w'
                       go_simp
                       with_reducible rfl
                      rotate_left
                      ·simp only [Act.put,List.setIfInBounds_toArray,List.set_cons_zero,List.set_cons_succ,i64_w,i32_w]
                       rfl
                      refine pure_ (i:=13) (N:=some 157) (v:=undef) (a':=?_) #[true,true,true,true,true,true,true,true,true,true,true,true,true,true,false,false,false] rfl rfl (Og HT_.out (by kernel_rfl)) (fun _ _ _ h=>h) (Or.inr ⟨by rfl,rfl⟩) ?_ ?_
                      rotate_left
                      ·simp only [Act.put,List.setIfInBounds_toArray,List.set_cons_zero,List.set_cons_succ,i64_w,i32_w]
                       rfl
                      refine pure_ (i:=14) (N:=some 158) (v:=undef) (a':=?_) #[true,true,true,true,true,true,true,true,true,true,true,true,true,true,true,false,false] rfl rfl (Og HT_.out (by kernel_rfl)) (fun _ _ _ h=>h) (Or.inr ⟨by rfl,rfl⟩) ?_ ?_
                      rotate_left
                      ·simp only [Act.put,List.setIfInBounds_toArray,List.set_cons_zero,List.set_cons_succ,i64_w,i32_w]
                       rfl
                      refine pure_ (i:=15) (N:=some 159) (v:=undef) (a':=?_) #[true,true,true,true,true,true,true,true,true,true,true,true,true,true,true,true,false] rfl rfl (Og HT_.out (by kernel_rfl)) (fun _ _ _ h=>h) (Or.inr ⟨by rfl,rfl⟩) ?_ ?_
                      rotate_left
                      ·simp only [Act.put,List.setIfInBounds_toArray,List.set_cons_zero,List.set_cons_succ,i64_w,i32_w]
                       rfl
                      refine pure_ (i:=16) (N:=some 160) (v:=?_) (a':=?_) #[true,true,true,true,true,true,true,true,true,true,true,true,true,true,true,true,true] rfl rfl (Og HT_.out (by kernel_rfl)) (fun _ _ _ h=>h) (Or.inl ⟨by rfl,?_⟩) ?_ ?_
                      rotate_left
                      ·intro w'
                       go_simp
                       with_reducible rfl
                      rotate_left
                      ·simp only [Act.put,List.setIfInBounds_toArray,List.set_cons_zero,List.set_cons_succ,i64_w,i32_w]
                       rfl
                      refine done_ (done_of HT_.out (by kernel_rfl)) ?_
                      try go_wp2
                      go_meet
                      case rel=>exact⟨_,(true),(by first|rfl|(simp;done)|(simp [*];done)),H',⟨by have:=zl.out;have:=HK2.out;have:=HJ38.out;first|omega|exact Nat.le_refl _⟩,⟨by(with_reducible repeat(first|apply Od|apply Oc|apply Ob));exact Kd.R_mono qg.out (fun _ hk=>trivial)⟩,⟨by(with_reducible repeat(first|apply Od|apply Oc|apply Ob));exact Kd.R_mono qh.out (fun _ hk=>trivial)⟩,⟨by(with_reducible repeat(first|apply Od|apply Oc|apply Ob));exact yb.out⟩,⟨by repeat(first|(with_reducible first|exact HB.out|apply Oi|apply Oe|apply Oh)|exact HB.out)⟩⟩
                    case rest=>as_aux_lemma=>
                     clear HC59
                     try clear p2
                     try clear c3
                     try clear c4
                     try clear p4
                     try clear q4
                     try clear hx4
                     try clear qi4
                     try clear c5
                     try clear p5
                     try clear q5
                     try clear hx5
                     try clear qi5
                     try clear hf5
                     try clear c7
                     try clear hx7
                     try clear hf7
                     try clear c32
                     try clear p40
                     try clear q40
                     try clear hx40
                     try clear qi40
                     try clear c43
                     try clear c50
                     try clear c55
                     try clear p55
                     try clear q55
                     try clear hx55
                     try clear qi55
                     try clear hf55
                     try clear c70
                     try clear hx70
                     try clear hf70
                     try clear c76
                     try clear zn
                     try clear c76b1
                     try clear c77
                     try clear c77b0
                     try clear c77b1
                     try clear c78
                     try clear c78b0
                     try clear c78b1
                     try clear c79
                     try clear c79b0
                     try clear c79b1
                     try clear yf
                     try clear yg
                     try clear zo
                     try clear zp
                     try clear p405
                     try clear p406
                     try clear p55
                     try clear q405
                     try clear q406
                     try clear q55
                     obtain⟨kq,zj,rfl,HA,HJ58,qg,qh,yk,HB⟩:=hcut
                     cases kq with
                     | zero => exact absurd HA.out (by simp [laws_FnPacked.j3])
                     | succ kj58 =>
                      have H:=HA.out
                      clear HA
                      simp only [laws_FnPacked.j3] at H
                      by_cases c87:zj=true
                      ·subst c87
                       have H1:(some false)=some true:=by rw [if_pos rfl] at H;exact H
                       clear H
                       have H:=H1
                       clear H1
                       exact absurd (Option.some.inj H) Bool.false_ne_true
                      ·replace c87:=Bool.eq_false_iff.mpr c87
                       subst c87
                       have H1:(laws_FnPacked.l1 kj58 qa qb ql 0)=some true:=by rw [if_neg (show ¬ (false=true) by decide)] at H;exact H
                       clear H
                       have H:=H1
                       clear H1
                       have H':=Oa H
                       clear H
                       go_wp2
                       go_loopg [18] kj58 (fun kq v18 w'=>∃ (qc:Int),v18=.int .i64 qc∧Aside0 (laws_FnPacked.l1 kq qa qb ql qc=some true)∧Aside0 (kq≤kj58)∧Aside0 (Kd.R Kd.string 9 w' w.heap.size (fun _=>True) (.slice ya qa.length yc) qa)∧Aside0 (Kd.R k71 71 w' w.heap.size (fun _=>True) (.slice qx qb.length qz) qb)∧Aside0 (Kd.R (Kd.int .i64) 2 w' w.heap.size (fun _=>True) v393 ql)∧Aside0 (Below w.heap.size w w'))
                       case atStart=>exact⟨(0),(by first|rfl|(simp;done)|(simp [*];done)),H',⟨Nat.le_refl _⟩,⟨by(with_reducible repeat(first|apply Od|apply Oc|apply Ob));exact qg.out⟩,⟨by(with_reducible repeat(first|apply Od|apply Oc|apply Ob));exact qh.out⟩,⟨by(with_reducible repeat(first|apply Od|apply Oc|apply Ob));exact yk.out⟩,⟨by repeat(first|(with_reducible first|exact HB.out|apply Oi|apply Oe|apply Oh)|exact HB.out)⟩⟩
                       case round=>
                        clear H'
                        try clear p2
                        try clear c3
                        try clear c4
                        try clear p4
                        try clear q4
                        try clear hx4
                        try clear qi4
                        try clear c5
                        try clear p5
                        try clear q5
                        try clear hx5
                        try clear qi5
                        try clear hf5
                        try clear c7
                        try clear hx7
                        try clear hf7
                        try clear c8
                        try clear c32
                        try clear p40
                        try clear q40
                        try clear hx40
                        try clear qi40
                        try clear c43
                        try clear c50
                        try clear c55
                        try clear p55
                        try clear q55
                        try clear hx55
                        try clear qi55
                        try clear hf55
                        try clear c70
                        try clear hx70
                        try clear hf70
                        try clear c76
                        try clear zn
                        try clear c76b1
                        try clear c77
                        try clear c77b0
                        try clear c77b1
                        try clear c78
                        try clear c78b0
                        try clear c78b1
                        try clear c79
                        try clear c79b0
                        try clear c79b1
                        try clear c87
                        try clear yf
                        try clear yg
                        try clear zo
                        try clear zp
                        try clear p2
                        try clear p4
                        try clear p40
                        try clear p405
                        try clear p406
                        try clear p5
                        try clear p55
                        try clear q4
                        try clear q40
                        try clear q405
                        try clear q406
                        try clear q5
                        try clear q55
                        obtain⟨qc,rfl,HA,HK5,qg,qh,yk,HB⟩:=hrel
                        cases gk with
                        | zero => exact absurd HA.out (by simp [laws_FnPacked.l1])
                        | succ k5 =>
                         have H:=HA.out
                         clear HA
                         simp only [laws_FnPacked.l1] at H
                         by_cases c88:qc < (ql.length:Int)
                         ·rw [if_pos c88] at H
                          have c88b0:decide (qc < (ql.length:Int))=true:=decide_eq_true c88
                          clear c88
                          by_cases c89:0≤qc
                          ·rw [if_pos c89] at H
                           have c89b0:decide (0≤qc)=true:=decide_eq_true c89
                           clear c89
                           by_cases c90:qc < (qb.length:Int)
                           ·rw [if_pos c90] at H
                            have c90b0:decide (qc < (qb.length:Int))=true:=decide_eq_true c90
                            clear c90
                            by_cases c91:0 < (qa.length:Int)
                            ·rw [if_pos c91] at H
                             have c91b0:decide (0 < (qa.length:Int))=true:=decide_eq_true c91
                             have c91b1:decide (0 < qa.length)=true:=decide_eq_true (by omega)
                             clear c91
                             by_cases c92:((rd_T71 qb qc).f0).toList=(rdOf ByteArray.empty qa 0).toList
                             ·rw [if_pos c92] at H
                              have c92b0:(((rd_T71 qb qc).f0).toList == (rdOf ByteArray.empty qa 0).toList)=true:=beq_iff_eq.mpr c92
                              have c92b1:(((rd_T71 qb qc).f0).toList != (rdOf ByteArray.empty qa 0).toList)=false:=bne_eq_false_iff_eq.mpr c92
                              clear c92
                              by_cases c93:(rd ql qc)=3
                              ·rw [if_pos c93] at H
                               have c93b0:((rd ql qc) == 3)=true:=beq_iff_eq.mpr c93
                               have c93b1:((rd ql qc) != 3)=false:=bne_eq_false_iff_eq.mpr c93
                               clear c93
                               have H':=Oa H
                               clear H
                               obtain⟨Ao94,co94,eo94⟩:=Ou yk.out
                               subst eo94
                               try go_wp2
                               have qs:=Oa (Ob qg.out)
                               have qt:=Oa (Ob qh.out)
                               have qu:=Oa (Ob yk.out)
                               have qv:=Oa (Oh HB.out)
                               clear qg
                               clear qh
                               clear yk
                               clear HB
                               have qg:=qs
                               have qh:=qt
                               have yk:=qu
                               have HB:=qv
                               clear qs qt qu qv
                               have p407:0≤(qc:Int):=of_decide_eq_true (by first|(with_reducible assumption)|assumption)
                               have q407:qc < (qb.length:Int):=of_decide_eq_true (by first|(with_reducible assumption)|assumption)
                               obtain⟨qy,e407,yy,yz,za⟩:=at_T71 (Ok qh.out).2.2 qc p407 q407
                               cases e407
                               replace p407:=eq_true p407
                               replace q407:=eq_true q407
                               have p408:0≤(0:Int):=(by omega)
                               have q408:0 < (qa.length:Int):=of_decide_eq_true (by first|(with_reducible assumption)|assumption)
                               obtain⟨zm,e408,yn⟩:=Kd.at_string (Ok qg.out).2.2 0 p408 q408
                               cases e408
                               have qi408:(0 < qa.length)=True:=eq_true (by omega)
                               (try rw [show((0:Int)).toNat=0 from rfl] at yn)
                               (try rw [Addr.add_zero'] at yn)
                               replace p408:=eq_true p408
                               replace q408:=eq_true q408
                               have p409:0≤(qc:Int):=of_decide_eq_true (by first|(with_reducible assumption)|assumption)
                               have q409:qc < (ql.length:Int):=of_decide_eq_true (by first|(with_reducible assumption)|assumption)
                               obtain⟨ad409,e409,hx409_0⟩:=Kd.at_int (Ok yk.out).2.2 qc p409 q409
                               cases e409
                               replace p409:=eq_true p409
                               replace q409:=eq_true q409
                               have p410:0≤(qc:Int):=of_decide_eq_true (by first|(with_reducible assumption)|assumption)
                               have q410:qc < (qb.length:Int):=of_decide_eq_true (by first|(with_reducible assumption)|assumption)
                               obtain⟨ad410,e410,hx410_0,hx410_1,hx410_2⟩:=at_T71 (Ok qh.out).2.2 qc p410 q410
                               obtain rfl:qy=ad410:=(by injection e410)
                               replace p410:=eq_true p410
                               replace q410:=eq_true q410
                               have p411:0≤(0:Int):=(by omega)
                               have q411:0 < (qa.length:Int):=of_decide_eq_true (by first|(with_reducible assumption)|assumption)
                               obtain⟨ad411,e411,zh⟩:=Kd.at_string (Ok qg.out).2.2 0 p411 q411
                               obtain rfl:zm=ad411:=(by injection e411)
                               have qi411:(0 < qa.length)=True:=eq_true (by omega)
                               (try rw [show((0:Int)).toNat=0 from rfl] at zh)
                               (try rw [Addr.add_zero'] at zh)
                               replace p411:=eq_true p411
                               replace q411:=eq_true q411
                               refine start_ (n:=34) (S:=fun w'=>w'.cell? (qy.add ((qc).toNat*3))=some (.string ((rd_T71 qb qc).f0))∧w'.cell? ⟨(qy.add ((qc).toNat*3)).block,(qy.add ((qc).toNat*3)).off+1,none⟩=some (.int .i64 ((rd_T71 qb qc).f1))∧w'.cell? ⟨(qy.add ((qc).toNat*3)).block,(qy.add ((qc).toNat*3)).off+2,none⟩=some (.int .i64 ((rd_T71 qb qc).f2))∧w'.cell? zm=some (.string (rdOf ByteArray.empty qa 0))∧w'.cell? (ad409.add (qc).toNat)=some (.int .i64 (rd ql qc))∧w'.cell? (qy.add ((qc).toNat*3))=some (.string ((rd_T71 qb qc).f0))∧w'.cell? ⟨(qy.add ((qc).toNat*3)).block,(qy.add ((qc).toNat*3)).off+1,none⟩=some (.int .i64 ((rd_T71 qb qc).f1))∧w'.cell? ⟨(qy.add ((qc).toNat*3)).block,(qy.add ((qc).toNat*3)).off+2,none⟩=some (.int .i64 ((rd_T71 qb qc).f2))∧w'.cell? zm=some (.string (rdOf ByteArray.empty qa 0))) (ds:=[]) #[false,false,false,false,false,false,false,false,false,false,false,false,false,false,false,false,false,false,false,false,false,false,false,false,false,false,false,false,false,false,false,false,false,false] (by kernel_rfl) rfl rfl ⟨yy,yz,za,yn,hx409_0,hx410_0,hx410_1,hx410_2,zh⟩ (fun hHeld=>?_);refine with_tabW laws_FnPacked.tab35 laws_FnPacked.bits35 (fun HT_ HW_=>?_)
                               generalize wr.drew=w95 at qg qh yk HB yy yz za yn hx409_0 hx410_0 hx410_1 hx410_2 zh hHeld ⊢
                               refine pure_ (i:=0) (N:=some 167) (v:=?_) (a':=?_) #[true,false,false,false,false,false,false,false,false,false,false,false,false,false,false,false,false,false,false,false,false,false,false,false,false,false,false,false,false,false,false,false,false,false] rfl rfl (Og HT_.out (by kernel_rfl)) (fun _ _ _ h=>h) (Or.inl ⟨by rfl,?_⟩) ?_ ?_
                               rotate_left
                               ·intro w'
                                go_simp
                                with_reducible rfl
                               rotate_left
                               ·simp only [Act.put,List.setIfInBounds_toArray,List.set_cons_zero,List.set_cons_succ,i64_w,i32_w]
                                rfl
                               refine pure_ (i:=1) (N:=some 168) (v:=?_) (a':=?_) #[true,true,false,false,false,false,false,false,false,false,false,false,false,false,false,false,false,false,false,false,false,false,false,false,false,false,false,false,false,false,false,false,false,false] rfl rfl (Og HT_.out (by kernel_rfl)) (fun _ _ _ h=>h) (Or.inl ⟨by rfl,?_⟩) ?_ ?_
                               rotate_left
                               ·intro w'
                                go_simp
                                with_reducible rfl
                               rotate_left
                               ·simp only [Act.put,List.setIfInBounds_toArray,List.set_cons_zero,List.set_cons_succ,i64_w,i32_w]
                                rfl
                               refine pure_ (i:=2) (N:=some 169) (v:=?_) (a':=?_) #[true,true,true,false,false,false,false,false,false,false,false,false,false,false,false,false,false,false,false,false,false,false,false,false,false,false,false,false,false,false,false,false,false,false] rfl rfl (Og HT_.out (by kernel_rfl)) (fun _ _ _ h=>h) (Or.inl ⟨by rfl,?_⟩) ?_ ?_
                               rotate_left
                               ·intro w'
                                go_simp
                                with_reducible rfl
                               rotate_left
                               ·simp only [Act.put,List.setIfInBounds_toArray,List.set_cons_zero,List.set_cons_succ,i64_w,i32_w]
                                rfl
                               refine pure_ (i:=3) (N:=some 170) (v:=?_) (a':=?_) #[true,true,true,true,false,false,false,false,false,false,false,false,false,false,false,false,false,false,false,false,false,false,false,false,false,false,false,false,false,false,false,false,false,false] rfl rfl (Og HT_.out (by kernel_rfl)) (fun _ _ _ h=>h) (Or.inl ⟨by rfl,?_⟩) ?_ ?_
                               rotate_left
                               ·intro w'
                                go_simp
                                with_reducible rfl
                               rotate_left
                               ·simp only [Act.put,List.setIfInBounds_toArray,List.set_cons_zero,List.set_cons_succ,i64_w,i32_w]
                                rfl
                               refine pure_ (i:=5) (N:=some 172) (v:=?_) (a':=?_) #[true,true,true,true,false,true,false,false,false,false,false,false,false,false,false,false,false,false,false,false,false,false,false,false,false,false,false,false,false,false,false,false,false,false] rfl rfl (Og HT_.out (by kernel_rfl)) (fun _ _ _ h=>h) (Or.inl ⟨by rfl,?_⟩) ?_ ?_
                               rotate_left
                               ·intro w'
                                go_simp
                                with_reducible rfl
                               rotate_left
                               ·simp only [Act.put,List.setIfInBounds_toArray,List.set_cons_zero,List.set_cons_succ,i64_w,i32_w]
                                rfl
                               refine pure_ (i:=6) (N:=some 173) (v:=?_) (a':=?_) #[true,true,true,true,false,true,true,false,false,false,false,false,false,false,false,false,false,false,false,false,false,false,false,false,false,false,false,false,false,false,false,false,false,false] rfl rfl (Og HT_.out (by kernel_rfl)) (fun _ _ _ h=>h) (Or.inl ⟨by rfl,?_⟩) ?_ ?_
                               rotate_left
                               ·intro w'
                                go_simp
                                with_reducible rfl
                               rotate_left
                               ·simp only [Act.put,List.setIfInBounds_toArray,List.set_cons_zero,List.set_cons_succ,i64_w,i32_w]
                                rfl
                               refine take_ (i:=4) (N:=some 171) (v:=?_) (a':=?_) #[true,true,true,true,true,true,true,false,false,false,false,false,false,false,false,false,false,false,false,false,false,false,false,false,false,false,false,false,false,false,false,false,false,false] rfl rfl (take_ofW HT_.out HW_.out (by kernel_rfl)) (fun _ _ _ h=>h) (Or.inl ⟨by rfl,?_⟩) hHeld ?_ ?_
                               rotate_left
                               ·rintro w' ⟨s0,s1,s2,s3,s4,s5,s6,s7,s8⟩
                                go_simp
                                with_reducible rfl
                               rotate_left
                               ·simp only [Act.put,List.setIfInBounds_toArray,List.set_cons_zero,List.set_cons_succ,i64_w,i32_w]
                                rfl
                               refine take_ (i:=7) (N:=some 174) (v:=?_) (a':=?_) #[true,true,true,true,true,true,true,true,false,false,false,false,false,false,false,false,false,false,false,false,false,false,false,false,false,false,false,false,false,false,false,false,false,false] rfl rfl (take_ofW HT_.out HW_.out (by kernel_rfl)) (fun _ _ _ h=>h) (Or.inl ⟨by rfl,?_⟩) hHeld ?_ ?_
                               rotate_left
                               ·rintro w' ⟨s0,s1,s2,s3,s4,s5,s6,s7,s8⟩
                                go_simp
                                with_reducible rfl
                               rotate_left
                               ·simp only [Act.put,List.setIfInBounds_toArray,List.set_cons_zero,List.set_cons_succ,i64_w,i32_w]
                                rfl
                               refine pure_ (i:=8) (N:=some 175) (v:=?_) (a':=?_) #[true,true,true,true,true,true,true,true,true,false,false,false,false,false,false,false,false,false,false,false,false,false,false,false,false,false,false,false,false,false,false,false,false,false] rfl rfl (Og HT_.out (by kernel_rfl)) (fun _ _ _ h=>h) (Or.inl ⟨by rfl,?_⟩) ?_ ?_
                               rotate_left
                               ·intro w'
                                go_simp
                                with_reducible rfl
                               rotate_left
                               ·simp only [Act.put,List.setIfInBounds_toArray,List.set_cons_zero,List.set_cons_succ,i64_w,i32_w]
                                rfl
                               refine pure_ (i:=9) (N:=some 176) (v:=?_) (a':=?_) #[true,true,true,true,true,true,true,true,true,true,false,false,false,false,false,false,false,false,false,false,false,false,false,false,false,false,false,false,false,false,false,false,false,false] rfl rfl (Og HT_.out (by kernel_rfl)) (fun _ _ _ h=>h) (Or.inl ⟨by rfl,?_⟩) ?_ ?_
                               rotate_left
                               ·intro w'
                                go_simp
                                with_reducible rfl
                               rotate_left
                               ·simp only [Act.put,List.setIfInBounds_toArray,List.set_cons_zero,List.set_cons_succ,i64_w,i32_w]
                                rfl
                               refine pure_ (i:=10) (N:=some 177) (v:=?_) (a':=?_) #[true,true,true,true,true,true,true,true,true,true,true,false,false,false,false,false,false,false,false,false,false,false,false,false,false,false,false,false,false,false,false,false,false,false] rfl rfl (Og HT_.out (by kernel_rfl)) (fun _ _ _ h=>h) (Or.inl ⟨by rfl,?_⟩) ?_ ?_
                               rotate_left
                               ·intro w'
                                go_simp
                                with_reducible rfl
                               rotate_left
                               ·simp only [Act.put,List.setIfInBounds_toArray,List.set_cons_zero,List.set_cons_succ,i64_w,i32_w]
                                rfl
                               refine pure_ (i:=11) (N:=some 178) (v:=?_) (a':=?_) #[true,true,true,true,true,true,true,true,true,true,true,true,false,false,false,false,false,false,false,false,false,false,false,false,false,false,false,false,false,false,false,false,false,false] rfl rfl (Og HT_.out (by kernel_rfl)) (fun _ _ _ h=>h) (Or.inl ⟨by rfl,?_⟩) ?_ ?_
                               rotate_left
                               ·intro w'
                                go_simp
                                with_reducible rfl
                               rotate_left
                               ·simp only [Act.put,List.setIfInBounds_toArray,List.set_cons_zero,List.set_cons_succ,i64_w,i32_w]
                                rfl
                               refine pure_ (i:=12) (N:=some 179) (v:=?_) (a':=?_) #[true,true,true,true,true,true,true,true,true,true,true,true,true,false,false,false,false,false,false,false,false,false,false,false,false,false,false,false,false,false,false,false,false,false] rfl rfl (Og HT_.out (by kernel_rfl)) (fun _ _ _ h=>h) (Or.inl ⟨by rfl,?_⟩) ?_ ?_
                               rotate_left
                               ·intro w'
                                go_simp
                                with_reducible rfl
                               rotate_left
                               ·simp only [Act.put,List.setIfInBounds_toArray,List.set_cons_zero,List.set_cons_succ,i64_w,i32_w]
                                rfl
                               refine take_ (i:=13) (N:=some 180) (v:=?_) (a':=?_) #[true,true,true,true,true,true,true,true,true,true,true,true,true,true,false,false,false,false,false,false,false,false,false,false,false,false,false,false,false,false,false,false,false,false] rfl rfl (take_ofW HT_.out HW_.out (by kernel_rfl)) (fun _ _ _ h=>h) (Or.inl ⟨by rfl,?_⟩) hHeld ?_ ?_
                               rotate_left
                               ·rintro w' ⟨s0,s1,s2,s3,s4,s5,s6,s7,s8⟩
                                go_simp
                                with_reducible rfl
                               rotate_left
                               ·simp only [Act.put,List.setIfInBounds_toArray,List.set_cons_zero,List.set_cons_succ,i64_w,i32_w]
                                rfl
                               refine pure_ (i:=14) (N:=some 181) (v:=?_) (a':=?_) #[true,true,true,true,true,true,true,true,true,true,true,true,true,true,true,false,false,false,false,false,false,false,false,false,false,false,false,false,false,false,false,false,false,false] rfl rfl (Og HT_.out (by kernel_rfl)) (fun _ _ _ h=>h) (Or.inl ⟨by rfl,?_⟩) ?_ ?_
                               rotate_left
                               ·intro w'
                                go_simp
                                with_reducible rfl
                               rotate_left
                               ·simp only [Act.put,List.setIfInBounds_toArray,List.set_cons_zero,List.set_cons_succ,i64_w,i32_w]
                                rfl
                               refine pure_ (i:=15) (N:=some 182) (v:=?_) (a':=?_) #[true,true,true,true,true,true,true,true,true,true,true,true,true,true,true,true,false,false,false,false,false,false,false,false,false,false,false,false,false,false,false,false,false,false] rfl rfl (Og HT_.out (by kernel_rfl)) (fun _ _ _ h=>h) (Or.inl ⟨by rfl,?_⟩) ?_ ?_
                               rotate_left
                               ·intro w'
                                go_simp
                                with_reducible rfl
                               rotate_left
                               ·simp only [Act.put,List.setIfInBounds_toArray,List.set_cons_zero,List.set_cons_succ,i64_w,i32_w]
                                rfl
                               refine pure_ (i:=16) (N:=some 183) (v:=?_) (a':=?_) #[true,true,true,true,true,true,true,true,true,true,true,true,true,true,true,true,true,false,false,false,false,false,false,false,false,false,false,false,false,false,false,false,false,false] rfl rfl (Og HT_.out (by kernel_rfl)) (fun _ _ _ h=>h) (Or.inl ⟨by rfl,?_⟩) ?_ ?_
                               rotate_left
                               ·intro w'
                                go_simp
                                with_reducible rfl
                               rotate_left
                               ·simp only [Act.put,List.setIfInBounds_toArray,List.set_cons_zero,List.set_cons_succ,i64_w,i32_w]
                                rfl
                               refine pure_ (i:=17) (N:=some 184) (v:=?_) (a':=?_) #[true,true,true,true,true,true,true,true,true,true,true,true,true,true,true,true,true,true,false,false,false,false,false,false,false,false,false,false,false,false,false,false,false,false] rfl rfl (Og HT_.out (by kernel_rfl)) (fun _ _ _ h=>h) (Or.inl ⟨by rfl,?_⟩) ?_ ?_
                               rotate_left
                               ·intro w'
                                go_simp
                                with_reducible rfl
                               rotate_left
                               ·simp only [Act.put,List.setIfInBounds_toArray,List.set_cons_zero,List.set_cons_succ,i64_w,i32_w]
                                rfl
                               refine pure_ (i:=18) (N:=some 185) (v:=?_) (a':=?_) #[true,true,true,true,true,true,true,true,true,true,true,true,true,true,true,true,true,true,true,false,false,false,false,false,false,false,false,false,false,false,false,false,false,false] rfl rfl (Og HT_.out (by kernel_rfl)) (fun _ _ _ h=>h) (Or.inl ⟨by rfl,?_⟩) ?_ ?_
                               rotate_left
                               ·intro w'
                                go_simp
                                with_reducible rfl
                               rotate_left
                               ·simp only [Act.put,List.setIfInBounds_toArray,List.set_cons_zero,List.set_cons_succ,i64_w,i32_w]
                                rfl
                               refine pure_ (i:=19) (N:=some 186) (v:=?_) (a':=?_) #[true,true,true,true,true,true,true,true,true,true,true,true,true,true,true,true,true,true,true,true,false,false,false,false,false,false,false,false,false,false,false,false,false,false] rfl rfl (Og HT_.out (by kernel_rfl)) (fun _ _ _ h=>h) (Or.inl ⟨by rfl,?_⟩) ?_ ?_
                               rotate_left
                               ·intro w'
                                go_simp
                                with_reducible rfl
                               rotate_left
                               ·simp only [Act.put,List.setIfInBounds_toArray,List.set_cons_zero,List.set_cons_succ,i64_w,i32_w]
                                rfl
                               refine pure_ (i:=20) (N:=some 187) (v:=?_) (a':=?_) #[true,true,true,true,true,true,true,true,true,true,true,true,true,true,true,true,true,true,true,true,true,false,false,false,false,false,false,false,false,false,false,false,false,false] rfl rfl (Og HT_.out (by kernel_rfl)) (fun _ _ _ h=>h) (Or.inl ⟨by rfl,?_⟩) ?_ ?_
                               rotate_left
                               ·intro w'
                                go_simp
                                with_reducible rfl
                               rotate_left
                               ·simp only [Act.put,List.setIfInBounds_toArray,List.set_cons_zero,List.set_cons_succ,i64_w,i32_w]
                                rfl
                               refine pure_ (i:=22) (N:=some 189) (v:=?_) (a':=?_) #[true,true,true,true,true,true,true,true,true,true,true,true,true,true,true,true,true,true,true,true,true,false,true,false,false,false,false,false,false,false,false,false,false,false] rfl rfl (Og HT_.out (by kernel_rfl)) (fun _ _ _ h=>h) (Or.inl ⟨by rfl,?_⟩) ?_ ?_
                               rotate_left
                               ·intro w'
                                go_simp
                                with_reducible rfl
                               rotate_left
                               ·simp only [Act.put,List.setIfInBounds_toArray,List.set_cons_zero,List.set_cons_succ,i64_w,i32_w]
                                rfl
                               refine pure_ (i:=23) (N:=some 190) (v:=?_) (a':=?_) #[true,true,true,true,true,true,true,true,true,true,true,true,true,true,true,true,true,true,true,true,true,false,true,true,false,false,false,false,false,false,false,false,false,false] rfl rfl (Og HT_.out (by kernel_rfl)) (fun _ _ _ h=>h) (Or.inl ⟨by rfl,?_⟩) ?_ ?_
                               rotate_left
                               ·intro w'
                                go_simp
                                with_reducible rfl
                               rotate_left
                               ·simp only [Act.put,List.setIfInBounds_toArray,List.set_cons_zero,List.set_cons_succ,i64_w,i32_w]
                                rfl
                               refine take_ (i:=21) (N:=some 188) (v:=?_) (a':=?_) #[true,true,true,true,true,true,true,true,true,true,true,true,true,true,true,true,true,true,true,true,true,true,true,true,false,false,false,false,false,false,false,false,false,false] rfl rfl (take_ofW HT_.out HW_.out (by kernel_rfl)) (fun _ _ _ h=>h) (Or.inl ⟨by rfl,?_⟩) hHeld ?_ ?_
                               rotate_left
                               ·rintro w' ⟨s0,s1,s2,s3,s4,s5,s6,s7,s8⟩
                                go_simp
                                with_reducible rfl
                               rotate_left
                               ·simp only [Act.put,List.setIfInBounds_toArray,List.set_cons_zero,List.set_cons_succ,i64_w,i32_w]
                                rfl
                               refine take_ (i:=24) (N:=some 191) (v:=?_) (a':=?_) #[true,true,true,true,true,true,true,true,true,true,true,true,true,true,true,true,true,true,true,true,true,true,true,true,true,false,false,false,false,false,false,false,false,false] rfl rfl (take_ofW HT_.out HW_.out (by kernel_rfl)) (fun _ _ _ h=>h) (Or.inl ⟨by rfl,?_⟩) hHeld ?_ ?_
                               rotate_left
                               ·rintro w' ⟨s0,s1,s2,s3,s4,s5,s6,s7,s8⟩
                                go_simp
                                with_reducible rfl
                               rotate_left
                               ·simp only [Act.put,List.setIfInBounds_toArray,List.set_cons_zero,List.set_cons_succ,i64_w,i32_w]
                                rfl
                               refine pure_ (i:=25) (N:=some 192) (v:=?_) (a':=?_) #[true,true,true,true,true,true,true,true,true,true,true,true,true,true,true,true,true,true,true,true,true,true,true,true,true,true,false,false,false,false,false,false,false,false] rfl rfl (Og HT_.out (by kernel_rfl)) (fun _ _ _ h=>h) (Or.inl ⟨by rfl,?_⟩) ?_ ?_
                               rotate_left
                               ·intro w'
                                go_simp
                                with_reducible rfl
                               rotate_left
                               ·simp only [Act.put,List.setIfInBounds_toArray,List.set_cons_zero,List.set_cons_succ,i64_w,i32_w]
                                rfl
                               refine pure_ (i:=26) (N:=some 193) (v:=?_) (a':=?_) #[true,true,true,true,true,true,true,true,true,true,true,true,true,true,true,true,true,true,true,true,true,true,true,true,true,true,true,false,false,false,false,false,false,false] rfl rfl (Og HT_.out (by kernel_rfl)) (fun _ _ _ h=>h) (Or.inl ⟨by rfl,?_⟩) ?_ ?_
                               rotate_left
                               ·intro w'
                                go_simp
                                with_reducible rfl
                               rotate_left
                               ·simp only [Act.put,List.setIfInBounds_toArray,List.set_cons_zero,List.set_cons_succ,i64_w,i32_w]
                                rfl
                               refine pure_ (i:=27) (N:=some 194) (v:=undef) (a':=?_) #[true,true,true,true,true,true,true,true,true,true,true,true,true,true,true,true,true,true,true,true,true,true,true,true,true,true,true,true,false,false,false,false,false,false] rfl rfl (Og HT_.out (by kernel_rfl)) (fun _ _ _ h=>h) (Or.inr ⟨by rfl,rfl⟩) ?_ ?_
                               rotate_left
                               ·simp only [Act.put,List.setIfInBounds_toArray,List.set_cons_zero,List.set_cons_succ,i64_w,i32_w]
                                rfl
                               refine pure_ (i:=28) (N:=some 195) (v:=undef) (a':=?_) #[true,true,true,true,true,true,true,true,true,true,true,true,true,true,true,true,true,true,true,true,true,true,true,true,true,true,true,true,true,false,false,false,false,false] rfl rfl (Og HT_.out (by kernel_rfl)) (fun _ _ _ h=>h) (Or.inr ⟨by rfl,rfl⟩) ?_ ?_
                               rotate_left
                               ·simp only [Act.put,List.setIfInBounds_toArray,List.set_cons_zero,List.set_cons_succ,i64_w,i32_w]
                                rfl
                               refine pure_ (i:=29) (N:=some 196) (v:=undef) (a':=?_) #[true,true,true,true,true,true,true,true,true,true,true,true,true,true,true,true,true,true,true,true,true,true,true,true,true,true,true,true,true,true,false,false,false,false] rfl rfl (Og HT_.out (by kernel_rfl)) (fun _ _ _ h=>h) (Or.inr ⟨by rfl,rfl⟩) ?_ ?_
                               rotate_left
                               ·simp only [Act.put,List.setIfInBounds_toArray,List.set_cons_zero,List.set_cons_succ,i64_w,i32_w]
                                rfl
                               refine pure_ (i:=30) (N:=some 197) (v:=undef) (a':=?_) #[true,true,true,true,true,true,true,true,true,true,true,true,true,true,true,true,true,true,true,true,true,true,true,true,true,true,true,true,true,true,true,false,false,false] rfl rfl (Og HT_.out (by kernel_rfl)) (fun _ _ _ h=>h) (Or.inr ⟨by rfl,rfl⟩) ?_ ?_
                               rotate_left
                               ·simp only [Act.put,List.setIfInBounds_toArray,List.set_cons_zero,List.set_cons_succ,i64_w,i32_w]
                                rfl
                               refine pure_ (i:=31) (N:=some 198) (v:=undef) (a':=?_) #[true,true,true,true,true,true,true,true,true,true,true,true,true,true,true,true,true,true,true,true,true,true,true,true,true,true,true,true,true,true,true,true,false,false] rfl rfl (Og HT_.out (by kernel_rfl)) (fun _ _ _ h=>h) (Or.inr ⟨by rfl,rfl⟩) ?_ ?_
                               rotate_left
                               ·simp only [Act.put,List.setIfInBounds_toArray,List.set_cons_zero,List.set_cons_succ,i64_w,i32_w]
                                rfl
                               refine pure_ (i:=32) (N:=some 199) (v:=?_) (a':=?_) #[true,true,true,true,true,true,true,true,true,true,true,true,true,true,true,true,true,true,true,true,true,true,true,true,true,true,true,true,true,true,true,true,true,false] rfl rfl (Og HT_.out (by kernel_rfl)) (fun _ _ _ h=>h) (Or.inl ⟨by rfl,?_⟩) ?_ ?_
                               rotate_left
                               ·intro w'
                                go_simp
                                with_reducible rfl
                               rotate_left
                               ·simp only [Act.put,List.setIfInBounds_toArray,List.set_cons_zero,List.set_cons_succ,i64_w,i32_w]
                                rfl
                               refine pure_ (i:=33) (N:=some 200) (v:=?_) (a':=?_) #[true,true,true,true,true,true,true,true,true,true,true,true,true,true,true,true,true,true,true,true,true,true,true,true,true,true,true,true,true,true,true,true,true,true] rfl rfl (Og HT_.out (by kernel_rfl)) (fun _ _ _ h=>h) (Or.inl ⟨by rfl,?_⟩) ?_ ?_
                               rotate_left
                               ·intro w'
                                go_simp
                                with_reducible rfl
                               rotate_left
                               ·simp only [Act.put,List.setIfInBounds_toArray,List.set_cons_zero,List.set_cons_succ,i64_w,i32_w]
                                rfl
                               refine done_ (done_of HT_.out (by kernel_rfl)) ?_
                               try go_wp2
                               go_roundg k5
                               case measure=>have:=zl.out;have:=HK2.out;have:=HJ38.out;have:=HJ58.out;have:=HK5.out;omega
                               case rel=>exact⟨(wrap64 (qc+1)),(by first|rfl|(simp;done)|(simp [*];done)),H',⟨by have:=zl.out;have:=HK2.out;have:=HJ38.out;have:=HJ58.out;have:=HK5.out;omega⟩,⟨by(with_reducible repeat(first|apply Od|apply Oc|apply Ob));exact qg.out⟩,⟨by(with_reducible repeat(first|apply Od|apply Oc|apply Ob));exact qh.out⟩,⟨by(with_reducible repeat(first|apply Od|apply Oc|apply Ob));exact yk.out⟩,⟨by repeat(first|(with_reducible first|exact HB.out|apply Oi|apply Oe|apply Oh)|exact HB.out)⟩⟩
                              ·rw [if_neg c93] at H
                               have c93b0:((rd ql qc) == 3)=false:=beq_eq_false_iff_ne.mpr c93
                               have c93b1:((rd ql qc) != 3)=true:=bne_iff_ne.mpr c93
                               exact absurd (Option.some.inj H) Bool.false_ne_true
                             ·rw [if_neg c92] at H
                              have c92b0:(((rd_T71 qb qc).f0).toList == (rdOf ByteArray.empty qa 0).toList)=false:=beq_eq_false_iff_ne.mpr c92
                              have c92b1:(((rd_T71 qb qc).f0).toList != (rdOf ByteArray.empty qa 0).toList)=true:=bne_iff_ne.mpr c92
                              by_cases c98:(rd ql qc)=0
                              ·rw [if_pos c98] at H
                               have c98b0:((rd ql qc) == 0)=true:=beq_iff_eq.mpr c98
                               have c98b1:((rd ql qc) != 0)=false:=bne_eq_false_iff_eq.mpr c98
                               clear c98
                               have H':=Oa H
                               clear H
                               obtain⟨Ao99,co99,eo99⟩:=Ou yk.out
                               subst eo99
                               try go_wp2
                               have qs:=Oa (Ob qg.out)
                               have qt:=Oa (Ob qh.out)
                               have qu:=Oa (Ob yk.out)
                               have qv:=Oa (Oh HB.out)
                               clear qg
                               clear qh
                               clear yk
                               clear HB
                               have qg:=qs
                               have qh:=qt
                               have yk:=qu
                               have HB:=qv
                               clear qs qt qu qv
                               have p407:0≤(qc:Int):=of_decide_eq_true (by first|(with_reducible assumption)|assumption)
                               have q407:qc < (qb.length:Int):=of_decide_eq_true (by first|(with_reducible assumption)|assumption)
                               obtain⟨qy,e407,yy,yz,za⟩:=at_T71 (Ok qh.out).2.2 qc p407 q407
                               cases e407
                               replace p407:=eq_true p407
                               replace q407:=eq_true q407
                               have p408:0≤(0:Int):=(by omega)
                               have q408:0 < (qa.length:Int):=of_decide_eq_true (by first|(with_reducible assumption)|assumption)
                               obtain⟨zm,e408,yn⟩:=Kd.at_string (Ok qg.out).2.2 0 p408 q408
                               cases e408
                               have qi408:(0 < qa.length)=True:=eq_true (by omega)
                               (try rw [show((0:Int)).toNat=0 from rfl] at yn)
                               (try rw [Addr.add_zero'] at yn)
                               replace p408:=eq_true p408
                               replace q408:=eq_true q408
                               have p412:0≤(qc:Int):=of_decide_eq_true (by first|(with_reducible assumption)|assumption)
                               have q412:qc < (qb.length:Int):=of_decide_eq_true (by first|(with_reducible assumption)|assumption)
                               obtain⟨ad412,e412,hx412_0,hx412_1,hx412_2⟩:=at_T71 (Ok qh.out).2.2 qc p412 q412
                               obtain rfl:qy=ad412:=(by injection e412)
                               replace p412:=eq_true p412
                               replace q412:=eq_true q412
                               have p413:0≤(0:Int):=(by omega)
                               have q413:0 < (qa.length:Int):=of_decide_eq_true (by first|(with_reducible assumption)|assumption)
                               obtain⟨ad413,e413,zi⟩:=Kd.at_string (Ok qg.out).2.2 0 p413 q413
                               obtain rfl:zm=ad413:=(by injection e413)
                               have qi413:(0 < qa.length)=True:=eq_true (by omega)
                               (try rw [show((0:Int)).toNat=0 from rfl] at zi)
                               (try rw [Addr.add_zero'] at zi)
                               replace p413:=eq_true p413
                               replace q413:=eq_true q413
                               have p414:0≤(qc:Int):=of_decide_eq_true (by first|(with_reducible assumption)|assumption)
                               have q414:qc < (ql.length:Int):=of_decide_eq_true (by first|(with_reducible assumption)|assumption)
                               obtain⟨ad414,e414,hx414_0⟩:=Kd.at_int (Ok yk.out).2.2 qc p414 q414
                               cases e414
                               replace p414:=eq_true p414
                               replace q414:=eq_true q414
                               refine start_ (n:=34) (S:=fun w'=>w'.cell? (qy.add ((qc).toNat*3))=some (.string ((rd_T71 qb qc).f0))∧w'.cell? ⟨(qy.add ((qc).toNat*3)).block,(qy.add ((qc).toNat*3)).off+1,none⟩=some (.int .i64 ((rd_T71 qb qc).f1))∧w'.cell? ⟨(qy.add ((qc).toNat*3)).block,(qy.add ((qc).toNat*3)).off+2,none⟩=some (.int .i64 ((rd_T71 qb qc).f2))∧w'.cell? zm=some (.string (rdOf ByteArray.empty qa 0))∧w'.cell? (qy.add ((qc).toNat*3))=some (.string ((rd_T71 qb qc).f0))∧w'.cell? ⟨(qy.add ((qc).toNat*3)).block,(qy.add ((qc).toNat*3)).off+1,none⟩=some (.int .i64 ((rd_T71 qb qc).f1))∧w'.cell? ⟨(qy.add ((qc).toNat*3)).block,(qy.add ((qc).toNat*3)).off+2,none⟩=some (.int .i64 ((rd_T71 qb qc).f2))∧w'.cell? zm=some (.string (rdOf ByteArray.empty qa 0))∧w'.cell? (ad414.add (qc).toNat)=some (.int .i64 (rd ql qc))) (ds:=[]) #[false,false,false,false,false,false,false,false,false,false,false,false,false,false,false,false,false,false,false,false,false,false,false,false,false,false,false,false,false,false,false,false,false,false] (by kernel_rfl) rfl rfl ⟨yy,yz,za,yn,hx412_0,hx412_1,hx412_2,zi,hx414_0⟩ (fun hHeld=>?_);refine with_tabW laws_FnPacked.tab35 laws_FnPacked.bits35 (fun HT_ HW_=>?_)
                               generalize wr.drew=w100 at qg qh yk HB yy yz za yn hx412_0 hx412_1 hx412_2 zi hx414_0 hHeld ⊢
                               refine pure_ (i:=0) (N:=some 167) (v:=?_) (a':=?_) #[true,false,false,false,false,false,false,false,false,false,false,false,false,false,false,false,false,false,false,false,false,false,false,false,false,false,false,false,false,false,false,false,false,false] rfl rfl (Og HT_.out (by kernel_rfl)) (fun _ _ _ h=>h) (Or.inl ⟨by rfl,?_⟩) ?_ ?_
                               rotate_left
                               ·intro w'
                                go_simp
                                with_reducible rfl
                               rotate_left
                               ·simp only [Act.put,List.setIfInBounds_toArray,List.set_cons_zero,List.set_cons_succ,i64_w,i32_w]
                                rfl
                               refine pure_ (i:=1) (N:=some 168) (v:=?_) (a':=?_) #[true,true,false,false,false,false,false,false,false,false,false,false,false,false,false,false,false,false,false,false,false,false,false,false,false,false,false,false,false,false,false,false,false,false] rfl rfl (Og HT_.out (by kernel_rfl)) (fun _ _ _ h=>h) (Or.inl ⟨by rfl,?_⟩) ?_ ?_
                               rotate_left
                               ·intro w'
                                go_simp
                                with_reducible rfl
                               rotate_left
                               ·simp only [Act.put,List.setIfInBounds_toArray,List.set_cons_zero,List.set_cons_succ,i64_w,i32_w]
                                rfl
                               refine pure_ (i:=2) (N:=some 169) (v:=?_) (a':=?_) #[true,true,true,false,false,false,false,false,false,false,false,false,false,false,false,false,false,false,false,false,false,false,false,false,false,false,false,false,false,false,false,false,false,false] rfl rfl (Og HT_.out (by kernel_rfl)) (fun _ _ _ h=>h) (Or.inl ⟨by rfl,?_⟩) ?_ ?_
                               rotate_left
                               ·intro w'
                                go_simp
                                with_reducible rfl
                               rotate_left
                               ·simp only [Act.put,List.setIfInBounds_toArray,List.set_cons_zero,List.set_cons_succ,i64_w,i32_w]
                                rfl
                               refine pure_ (i:=3) (N:=some 170) (v:=?_) (a':=?_) #[true,true,true,true,false,false,false,false,false,false,false,false,false,false,false,false,false,false,false,false,false,false,false,false,false,false,false,false,false,false,false,false,false,false] rfl rfl (Og HT_.out (by kernel_rfl)) (fun _ _ _ h=>h) (Or.inl ⟨by rfl,?_⟩) ?_ ?_
                               rotate_left
                               ·intro w'
                                go_simp
                                with_reducible rfl
                               rotate_left
                               ·simp only [Act.put,List.setIfInBounds_toArray,List.set_cons_zero,List.set_cons_succ,i64_w,i32_w]
                                rfl
                               refine pure_ (i:=5) (N:=some 172) (v:=?_) (a':=?_) #[true,true,true,true,false,true,false,false,false,false,false,false,false,false,false,false,false,false,false,false,false,false,false,false,false,false,false,false,false,false,false,false,false,false] rfl rfl (Og HT_.out (by kernel_rfl)) (fun _ _ _ h=>h) (Or.inl ⟨by rfl,?_⟩) ?_ ?_
                               rotate_left
                               ·intro w'
                                go_simp
                                with_reducible rfl
                               rotate_left
                               ·simp only [Act.put,List.setIfInBounds_toArray,List.set_cons_zero,List.set_cons_succ,i64_w,i32_w]
                                rfl
                               refine pure_ (i:=6) (N:=some 173) (v:=?_) (a':=?_) #[true,true,true,true,false,true,true,false,false,false,false,false,false,false,false,false,false,false,false,false,false,false,false,false,false,false,false,false,false,false,false,false,false,false] rfl rfl (Og HT_.out (by kernel_rfl)) (fun _ _ _ h=>h) (Or.inl ⟨by rfl,?_⟩) ?_ ?_
                               rotate_left
                               ·intro w'
                                go_simp
                                with_reducible rfl
                               rotate_left
                               ·simp only [Act.put,List.setIfInBounds_toArray,List.set_cons_zero,List.set_cons_succ,i64_w,i32_w]
                                rfl
                               refine take_ (i:=4) (N:=some 171) (v:=?_) (a':=?_) #[true,true,true,true,true,true,true,false,false,false,false,false,false,false,false,false,false,false,false,false,false,false,false,false,false,false,false,false,false,false,false,false,false,false] rfl rfl (take_ofW HT_.out HW_.out (by kernel_rfl)) (fun _ _ _ h=>h) (Or.inl ⟨by rfl,?_⟩) hHeld ?_ ?_
                               rotate_left
                               ·rintro w' ⟨s0,s1,s2,s3,s4,s5,s6,s7,s8⟩
                                go_simp
                                with_reducible rfl
                               rotate_left
                               ·simp only [Act.put,List.setIfInBounds_toArray,List.set_cons_zero,List.set_cons_succ,i64_w,i32_w]
                                rfl
                               refine take_ (i:=7) (N:=some 174) (v:=?_) (a':=?_) #[true,true,true,true,true,true,true,true,false,false,false,false,false,false,false,false,false,false,false,false,false,false,false,false,false,false,false,false,false,false,false,false,false,false] rfl rfl (take_ofW HT_.out HW_.out (by kernel_rfl)) (fun _ _ _ h=>h) (Or.inl ⟨by rfl,?_⟩) hHeld ?_ ?_
                               rotate_left
                               ·rintro w' ⟨s0,s1,s2,s3,s4,s5,s6,s7,s8⟩
                                go_simp
                                with_reducible rfl
                               rotate_left
                               ·simp only [Act.put,List.setIfInBounds_toArray,List.set_cons_zero,List.set_cons_succ,i64_w,i32_w]
                                rfl
                               refine pure_ (i:=8) (N:=some 175) (v:=?_) (a':=?_) #[true,true,true,true,true,true,true,true,true,false,false,false,false,false,false,false,false,false,false,false,false,false,false,false,false,false,false,false,false,false,false,false,false,false] rfl rfl (Og HT_.out (by kernel_rfl)) (fun _ _ _ h=>h) (Or.inl ⟨by rfl,?_⟩) ?_ ?_
                               rotate_left
                               ·intro w'
                                go_simp
                                with_reducible rfl
                               rotate_left
                               ·simp only [Act.put,List.setIfInBounds_toArray,List.set_cons_zero,List.set_cons_succ,i64_w,i32_w]
                                rfl
                               refine pure_ (i:=9) (N:=some 176) (v:=?_) (a':=?_) #[true,true,true,true,true,true,true,true,true,true,false,false,false,false,false,false,false,false,false,false,false,false,false,false,false,false,false,false,false,false,false,false,false,false] rfl rfl (Og HT_.out (by kernel_rfl)) (fun _ _ _ h=>h) (Or.inl ⟨by rfl,?_⟩) ?_ ?_
                               rotate_left
                               ·intro w'
                                go_simp
                                with_reducible rfl
                               rotate_left
                               ·simp only [Act.put,List.setIfInBounds_toArray,List.set_cons_zero,List.set_cons_succ,i64_w,i32_w]
                                rfl
                               refine pure_ (i:=10) (N:=some 177) (v:=undef) (a':=?_) #[true,true,true,true,true,true,true,true,true,true,true,false,false,false,false,false,false,false,false,false,false,false,false,false,false,false,false,false,false,false,false,false,false,false] rfl rfl (Og HT_.out (by kernel_rfl)) (fun _ _ _ h=>h) (Or.inr ⟨by rfl,rfl⟩) ?_ ?_
                               rotate_left
                               ·simp only [Act.put,List.setIfInBounds_toArray,List.set_cons_zero,List.set_cons_succ,i64_w,i32_w]
                                rfl
                               refine pure_ (i:=11) (N:=some 178) (v:=undef) (a':=?_) #[true,true,true,true,true,true,true,true,true,true,true,true,false,false,false,false,false,false,false,false,false,false,false,false,false,false,false,false,false,false,false,false,false,false] rfl rfl (Og HT_.out (by kernel_rfl)) (fun _ _ _ h=>h) (Or.inr ⟨by rfl,rfl⟩) ?_ ?_
                               rotate_left
                               ·simp only [Act.put,List.setIfInBounds_toArray,List.set_cons_zero,List.set_cons_succ,i64_w,i32_w]
                                rfl
                               refine pure_ (i:=12) (N:=some 179) (v:=undef) (a':=?_) #[true,true,true,true,true,true,true,true,true,true,true,true,true,false,false,false,false,false,false,false,false,false,false,false,false,false,false,false,false,false,false,false,false,false] rfl rfl (Og HT_.out (by kernel_rfl)) (fun _ _ _ h=>h) (Or.inr ⟨by rfl,rfl⟩) ?_ ?_
                               rotate_left
                               ·simp only [Act.put,List.setIfInBounds_toArray,List.set_cons_zero,List.set_cons_succ,i64_w,i32_w]
                                rfl
                               refine pure_ (i:=13) (N:=some 180) (v:=undef) (a':=?_) #[true,true,true,true,true,true,true,true,true,true,true,true,true,true,false,false,false,false,false,false,false,false,false,false,false,false,false,false,false,false,false,false,false,false] rfl rfl (Og HT_.out (by kernel_rfl)) (fun _ _ _ h=>h) (Or.inr ⟨by rfl,rfl⟩) ?_ ?_
                               rotate_left
                               ·simp only [Act.put,List.setIfInBounds_toArray,List.set_cons_zero,List.set_cons_succ,i64_w,i32_w]
                                rfl
                               refine pure_ (i:=14) (N:=some 181) (v:=undef) (a':=?_) #[true,true,true,true,true,true,true,true,true,true,true,true,true,true,true,false,false,false,false,false,false,false,false,false,false,false,false,false,false,false,false,false,false,false] rfl rfl (Og HT_.out (by kernel_rfl)) (fun _ _ _ h=>h) (Or.inr ⟨by rfl,rfl⟩) ?_ ?_
                               rotate_left
                               ·simp only [Act.put,List.setIfInBounds_toArray,List.set_cons_zero,List.set_cons_succ,i64_w,i32_w]
                                rfl
                               refine pure_ (i:=15) (N:=some 182) (v:=?_) (a':=?_) #[true,true,true,true,true,true,true,true,true,true,true,true,true,true,true,true,false,false,false,false,false,false,false,false,false,false,false,false,false,false,false,false,false,false] rfl rfl (Og HT_.out (by kernel_rfl)) (fun _ _ _ h=>h) (Or.inl ⟨by rfl,?_⟩) ?_ ?_
                               rotate_left
                               ·intro w'
                                go_simp
                                with_reducible rfl
                               rotate_left
                               ·simp only [Act.put,List.setIfInBounds_toArray,List.set_cons_zero,List.set_cons_succ,i64_w,i32_w]
                                rfl
                               refine pure_ (i:=16) (N:=some 183) (v:=?_) (a':=?_) #[true,true,true,true,true,true,true,true,true,true,true,true,true,true,true,true,true,false,false,false,false,false,false,false,false,false,false,false,false,false,false,false,false,false] rfl rfl (Og HT_.out (by kernel_rfl)) (fun _ _ _ h=>h) (Or.inl ⟨by rfl,?_⟩) ?_ ?_
                               rotate_left
                               ·intro w'
                                go_simp
                                with_reducible rfl
                               rotate_left
                               ·simp only [Act.put,List.setIfInBounds_toArray,List.set_cons_zero,List.set_cons_succ,i64_w,i32_w]
                                rfl
                               refine pure_ (i:=17) (N:=some 184) (v:=?_) (a':=?_) #[true,true,true,true,true,true,true,true,true,true,true,true,true,true,true,true,true,true,false,false,false,false,false,false,false,false,false,false,false,false,false,false,false,false] rfl rfl (Og HT_.out (by kernel_rfl)) (fun _ _ _ h=>h) (Or.inl ⟨by rfl,?_⟩) ?_ ?_
                               rotate_left
                               ·intro w'
                                go_simp
                                with_reducible rfl
                               rotate_left
                               ·simp only [Act.put,List.setIfInBounds_toArray,List.set_cons_zero,List.set_cons_succ,i64_w,i32_w]
                                rfl
                               refine pure_ (i:=18) (N:=some 185) (v:=?_) (a':=?_) #[true,true,true,true,true,true,true,true,true,true,true,true,true,true,true,true,true,true,true,false,false,false,false,false,false,false,false,false,false,false,false,false,false,false] rfl rfl (Og HT_.out (by kernel_rfl)) (fun _ _ _ h=>h) (Or.inl ⟨by rfl,?_⟩) ?_ ?_
                               rotate_left
                               ·intro w'
                                go_simp
                                with_reducible rfl
                               rotate_left
                               ·simp only [Act.put,List.setIfInBounds_toArray,List.set_cons_zero,List.set_cons_succ,i64_w,i32_w]
                                rfl
                               refine pure_ (i:=19) (N:=some 186) (v:=?_) (a':=?_) #[true,true,true,true,true,true,true,true,true,true,true,true,true,true,true,true,true,true,true,true,false,false,false,false,false,false,false,false,false,false,false,false,false,false] rfl rfl (Og HT_.out (by kernel_rfl)) (fun _ _ _ h=>h) (Or.inl ⟨by rfl,?_⟩) ?_ ?_
                               rotate_left
                               ·intro w'
                                go_simp
                                with_reducible rfl
                               rotate_left
                               ·simp only [Act.put,List.setIfInBounds_toArray,List.set_cons_zero,List.set_cons_succ,i64_w,i32_w]
                                rfl
                               refine pure_ (i:=20) (N:=some 187) (v:=?_) (a':=?_) #[true,true,true,true,true,true,true,true,true,true,true,true,true,true,true,true,true,true,true,true,true,false,false,false,false,false,false,false,false,false,false,false,false,false] rfl rfl (Og HT_.out (by kernel_rfl)) (fun _ _ _ h=>h) (Or.inl ⟨by rfl,?_⟩) ?_ ?_
                               rotate_left
                               ·intro w'
                                go_simp
                                with_reducible rfl
                               rotate_left
                               ·simp only [Act.put,List.setIfInBounds_toArray,List.set_cons_zero,List.set_cons_succ,i64_w,i32_w]
                                rfl
                               refine pure_ (i:=22) (N:=some 189) (v:=?_) (a':=?_) #[true,true,true,true,true,true,true,true,true,true,true,true,true,true,true,true,true,true,true,true,true,false,true,false,false,false,false,false,false,false,false,false,false,false] rfl rfl (Og HT_.out (by kernel_rfl)) (fun _ _ _ h=>h) (Or.inl ⟨by rfl,?_⟩) ?_ ?_
                               rotate_left
                               ·intro w'
                                go_simp
                                with_reducible rfl
                               rotate_left
                               ·simp only [Act.put,List.setIfInBounds_toArray,List.set_cons_zero,List.set_cons_succ,i64_w,i32_w]
                                rfl
                               refine pure_ (i:=23) (N:=some 190) (v:=?_) (a':=?_) #[true,true,true,true,true,true,true,true,true,true,true,true,true,true,true,true,true,true,true,true,true,false,true,true,false,false,false,false,false,false,false,false,false,false] rfl rfl (Og HT_.out (by kernel_rfl)) (fun _ _ _ h=>h) (Or.inl ⟨by rfl,?_⟩) ?_ ?_
                               rotate_left
                               ·intro w'
                                go_simp
                                with_reducible rfl
                               rotate_left
                               ·simp only [Act.put,List.setIfInBounds_toArray,List.set_cons_zero,List.set_cons_succ,i64_w,i32_w]
                                rfl
                               refine take_ (i:=21) (N:=some 188) (v:=?_) (a':=?_) #[true,true,true,true,true,true,true,true,true,true,true,true,true,true,true,true,true,true,true,true,true,true,true,true,false,false,false,false,false,false,false,false,false,false] rfl rfl (take_ofW HT_.out HW_.out (by kernel_rfl)) (fun _ _ _ h=>h) (Or.inl ⟨by rfl,?_⟩) hHeld ?_ ?_
                               rotate_left
                               ·rintro w' ⟨s0,s1,s2,s3,s4,s5,s6,s7,s8⟩
                                go_simp
                                with_reducible rfl
                               rotate_left
                               ·simp only [Act.put,List.setIfInBounds_toArray,List.set_cons_zero,List.set_cons_succ,i64_w,i32_w]
                                rfl
                               refine take_ (i:=24) (N:=some 191) (v:=?_) (a':=?_) #[true,true,true,true,true,true,true,true,true,true,true,true,true,true,true,true,true,true,true,true,true,true,true,true,true,false,false,false,false,false,false,false,false,false] rfl rfl (take_ofW HT_.out HW_.out (by kernel_rfl)) (fun _ _ _ h=>h) (Or.inl ⟨by rfl,?_⟩) hHeld ?_ ?_
                               rotate_left
                               ·rintro w' ⟨s0,s1,s2,s3,s4,s5,s6,s7,s8⟩
                                go_simp
                                with_reducible rfl
                               rotate_left
                               ·simp only [Act.put,List.setIfInBounds_toArray,List.set_cons_zero,List.set_cons_succ,i64_w,i32_w]
                                rfl
                               refine pure_ (i:=25) (N:=some 192) (v:=?_) (a':=?_) #[true,true,true,true,true,true,true,true,true,true,true,true,true,true,true,true,true,true,true,true,true,true,true,true,true,true,false,false,false,false,false,false,false,false] rfl rfl (Og HT_.out (by kernel_rfl)) (fun _ _ _ h=>h) (Or.inl ⟨by rfl,?_⟩) ?_ ?_
                               rotate_left
                               ·intro w'
                                go_simp
                                with_reducible rfl
                               rotate_left
                               ·simp only [Act.put,List.setIfInBounds_toArray,List.set_cons_zero,List.set_cons_succ,i64_w,i32_w]
                                rfl
                               refine pure_ (i:=26) (N:=some 193) (v:=?_) (a':=?_) #[true,true,true,true,true,true,true,true,true,true,true,true,true,true,true,true,true,true,true,true,true,true,true,true,true,true,true,false,false,false,false,false,false,false] rfl rfl (Og HT_.out (by kernel_rfl)) (fun _ _ _ h=>h) (Or.inl ⟨by rfl,?_⟩) ?_ ?_
                               rotate_left
                               ·intro w'
                                go_simp
                                with_reducible rfl
                               rotate_left
                               ·simp only [Act.put,List.setIfInBounds_toArray,List.set_cons_zero,List.set_cons_succ,i64_w,i32_w]
                                rfl
                               refine pure_ (i:=27) (N:=some 194) (v:=?_) (a':=?_) #[true,true,true,true,true,true,true,true,true,true,true,true,true,true,true,true,true,true,true,true,true,true,true,true,true,true,true,true,false,false,false,false,false,false] rfl rfl (Og HT_.out (by kernel_rfl)) (fun _ _ _ h=>h) (Or.inl ⟨by rfl,?_⟩) ?_ ?_
                               rotate_left
                               ·intro w'
                                go_simp
                                with_reducible rfl
                               rotate_left
                               ·simp only [Act.put,List.setIfInBounds_toArray,List.set_cons_zero,List.set_cons_succ,i64_w,i32_w]
                                rfl
                               refine pure_ (i:=28) (N:=some 195) (v:=?_) (a':=?_) #[true,true,true,true,true,true,true,true,true,true,true,true,true,true,true,true,true,true,true,true,true,true,true,true,true,true,true,true,true,false,false,false,false,false] rfl rfl (Og HT_.out (by kernel_rfl)) (fun _ _ _ h=>h) (Or.inl ⟨by rfl,?_⟩) ?_ ?_
                               rotate_left
                               ·intro w'
                                go_simp
                                with_reducible rfl
                               rotate_left
                               ·simp only [Act.put,List.setIfInBounds_toArray,List.set_cons_zero,List.set_cons_succ,i64_w,i32_w]
                                rfl
                               refine pure_ (i:=29) (N:=some 196) (v:=?_) (a':=?_) #[true,true,true,true,true,true,true,true,true,true,true,true,true,true,true,true,true,true,true,true,true,true,true,true,true,true,true,true,true,true,false,false,false,false] rfl rfl (Og HT_.out (by kernel_rfl)) (fun _ _ _ h=>h) (Or.inl ⟨by rfl,?_⟩) ?_ ?_
                               rotate_left
                               ·intro w'
                                go_simp
                                with_reducible rfl
                               rotate_left
                               ·simp only [Act.put,List.setIfInBounds_toArray,List.set_cons_zero,List.set_cons_succ,i64_w,i32_w]
                                rfl
                               refine take_ (i:=30) (N:=some 197) (v:=?_) (a':=?_) #[true,true,true,true,true,true,true,true,true,true,true,true,true,true,true,true,true,true,true,true,true,true,true,true,true,true,true,true,true,true,true,false,false,false] rfl rfl (take_ofW HT_.out HW_.out (by kernel_rfl)) (fun _ _ _ h=>h) (Or.inl ⟨by rfl,?_⟩) hHeld ?_ ?_
                               rotate_left
                               ·rintro w' ⟨s0,s1,s2,s3,s4,s5,s6,s7,s8⟩
                                go_simp
                                with_reducible rfl
                               rotate_left
                               ·simp only [Act.put,List.setIfInBounds_toArray,List.set_cons_zero,List.set_cons_succ,i64_w,i32_w]
                                rfl
                               refine pure_ (i:=31) (N:=some 198) (v:=?_) (a':=?_) #[true,true,true,true,true,true,true,true,true,true,true,true,true,true,true,true,true,true,true,true,true,true,true,true,true,true,true,true,true,true,true,true,false,false] rfl rfl (Og HT_.out (by kernel_rfl)) (fun _ _ _ h=>h) (Or.inl ⟨by rfl,?_⟩) ?_ ?_
                               rotate_left
                               ·intro w'
                                go_simp
                                with_reducible rfl
                               rotate_left
                               ·simp only [Act.put,List.setIfInBounds_toArray,List.set_cons_zero,List.set_cons_succ,i64_w,i32_w]
                                rfl
                               refine pure_ (i:=32) (N:=some 199) (v:=?_) (a':=?_) #[true,true,true,true,true,true,true,true,true,true,true,true,true,true,true,true,true,true,true,true,true,true,true,true,true,true,true,true,true,true,true,true,true,false] rfl rfl (Og HT_.out (by kernel_rfl)) (fun _ _ _ h=>h) (Or.inl ⟨by rfl,?_⟩) ?_ ?_
                               rotate_left
                               ·intro w'
                                go_simp
                                with_reducible rfl
                               rotate_left
                               ·simp only [Act.put,List.setIfInBounds_toArray,List.set_cons_zero,List.set_cons_succ,i64_w,i32_w]
                                rfl
                               refine pure_ (i:=33) (N:=some 200) (v:=?_) (a':=?_) #[true,true,true,true,true,true,true,true,true,true,true,true,true,true,true,true,true,true,true,true,true,true,true,true,true,true,true,true,true,true,true,true,true,true] rfl rfl (Og HT_.out (by kernel_rfl)) (fun _ _ _ h=>h) (Or.inl ⟨by rfl,?_⟩) ?_ ?_
                               rotate_left
                               ·intro w'
                                go_simp
                                with_reducible rfl
                               rotate_left
                               ·simp only [Act.put,List.setIfInBounds_toArray,List.set_cons_zero,List.set_cons_succ,i64_w,i32_w]
                                rfl
                               refine done_ (done_of HT_.out (by kernel_rfl)) ?_
                               try go_wp2
                               go_roundg k5
                               case measure=>have:=zl.out;have:=HK2.out;have:=HJ38.out;have:=HJ58.out;have:=HK5.out;omega
                               case rel=>exact⟨(wrap64 (qc+1)),(by first|rfl|(simp;done)|(simp [*];done)),H',⟨by have:=zl.out;have:=HK2.out;have:=HJ38.out;have:=HJ58.out;have:=HK5.out;omega⟩,⟨by(with_reducible repeat(first|apply Od|apply Oc|apply Ob));exact qg.out⟩,⟨by(with_reducible repeat(first|apply Od|apply Oc|apply Ob));exact qh.out⟩,⟨by(with_reducible repeat(first|apply Od|apply Oc|apply Ob));exact yk.out⟩,⟨by repeat(first|(with_reducible first|exact HB.out|apply Oi|apply Oe|apply Oh)|exact HB.out)⟩⟩
                              ·rw [if_neg c98] at H
                               have c98b0:((rd ql qc) == 0)=false:=beq_eq_false_iff_ne.mpr c98
                               have c98b1:((rd ql qc) != 0)=true:=bne_iff_ne.mpr c98
                               exact absurd (Option.some.inj H) Bool.false_ne_true
                            ·rw [if_neg c91] at H
                             exact absurd H (by simp)
                           ·rw [if_neg c90] at H
                            exact absurd H (by simp)
                          ·rw [if_neg c89] at H
                           exact absurd H (by simp)
                         ·rw [if_neg c88] at H
                          have c88b0:decide (qc < (ql.length:Int))=false:=decide_eq_false c88
                          clear c88
                          clear H
                          obtain⟨Ao103,co103,eo103⟩:=Ou yk.out
                          subst eo103
                          go_wp2
                          go_ret
                          exact⟨by first|rfl|(simp [errW_none,errW_some] <;> rfl)|(simp [*,errW_none,errW_some] <;> rfl),by repeat(first|(with_reducible first|exact HB.out|apply Oi|apply Oe|apply Oh)|exact HB.out)⟩
                   ·rw [if_neg c54] at H
                    exact absurd H (by simp)
                  ·rw [if_neg c52] at H
                   exact absurd H (by simp)
                 ·rw [if_neg c51] at H
                  exact absurd H (by simp)
                ·rw [if_neg c49] at H
                 exact absurd H (by simp)
               ·rw [if_neg c48] at H
                exact absurd H (by simp)
              ·rw [if_neg c47] at H
               exact absurd H (by simp)
          ·rw [if_neg c38] at H
           have c38b0:((wrap64 ((t368.length:Int)+(t369.length:Int))) == 0)=false:=beq_eq_false_iff_ne.mpr c38
           have c38b1:((wrap64 ((t368.length:Int)+(t369.length:Int))) != 0)=true:=bne_iff_ne.mpr c38
           exact absurd (Option.some.inj H) Bool.false_ne_true
   ·replace c13:=Bool.eq_false_iff.mpr c13
    subst c13
    have H1:(some ((qb.length:Int) == 0))=some true:=by rw [if_neg (show ¬ (false=true) by decide)] at H;exact H
    clear H
    have H:=H1
    clear H1
    have HR_:=Option.some.inj H
    go_enter Try.func11,Try.ntmps11
    go_wp2_with (first|((with_reducible refine Ot (f:=29) rfl ?_);refine goesL_ (some 20) rfl rfl Try.func29 (by kernel_rfl) rfl #[.slice A0 l0.length c0] rfl (by(try simp only [List.map_toArray,List.map_cons,List.map_nil]);first|done|rfl|(simp only [List.length_drop,List.length_take];rfl)) ?_;(with_reducible refine(laws_big.calls _ _ l0 false _ ?side1 ?side2 A2.out).mono ?_);(case side1=>repeat(first|exact HR0.out|(with_reducible refine Oo ?_ _)|(with_reducible refine Op ?_ _)|(with_reducible refine Oj ?_)));(case side2=>exact HC0.out);rintro e w' ⟨rfl,⟨nd,rfl⟩⟩;refine⟨_,rfl,?_⟩)|((with_reducible refine Ot (f:=49) rfl ?_);refine goesL_ (some 23) rfl rfl Try.func49 (by kernel_rfl) rfl #[.slice A0 l0.length c0] rfl (by(try simp only [List.map_toArray,List.map_cons,List.map_nil]);first|done|rfl|(simp only [List.length_drop,List.length_take];rfl)) ?_;(with_reducible refine(spec_DrawPack.calls k _ _ l0 qa qd _ ?side1 ?side2 A4.out).mono ?_);(case side1=>repeat(first|exact HR0.out|(with_reducible refine Oo ?_ _)|(with_reducible refine Op ?_ _)|(with_reducible refine Oj ?_)));(case side2=>exact HC0.out);rintro e w108 ⟨v351,v353,rfl,yi,ho1,hb⟩;refine⟨_,rfl,?_⟩;have qs:=Oa (Kd.R_lower yi (Ov (by repeat(first|(with_reducible first|exact HB.out|apply Oi|apply Oe|apply Oh)|exact HB.out))));have qt:=Oa (Kd.N_lower (Kd.N_mono (ok':=fun k_=>some k_≠(v351:Value).ownBlock) (Kd.S_N (Kd.S_bound (Kd.S_apart' ho1 (Kd.R_typed yi) (by decide)))) (fun k_ hk_=>hk_.1.2)) (Ov (by repeat(first|(with_reducible first|exact HB.out|apply Oi|apply Oe|apply Oh)|exact HB.out))));have qu:=Oa (below_step (by repeat(first|(with_reducible first|exact HB.out|apply Oi|apply Oe|apply Oh)|exact HB.out)) hb);clear HB;have qn:=qs;have qo:=qt;have HB:=qu;clear qs qt qu;(try clear hb);(try clear hb2);(try clear hk);(try clear hi);(try clear yi);(try clear ho1);obtain⟨Ao109,co109,eo109⟩:=Ou qn.out;subst eo109;obtain⟨Ao110,co110,eo110⟩:=Kd.N_slice qo.out;subst eo110)|((with_reducible refine Ot (f:=50) rfl ?_);refine goesL_ (some 29) rfl rfl Try.func50 (by kernel_rfl) rfl #[.slice Ao109 qa.length co109,.slice Ao110 qd.length co110] rfl (by(try simp only [List.map_toArray,List.map_cons,List.map_nil]);first|done|rfl|(simp only [List.length_drop,List.length_take];rfl)) ?_;(with_reducible refine(impl_Pack.calls k _ _ qa _ _ qd qb false _ ?side1 ?side2 ?side3 ?side4 A5.out).mono ?_);(case side1=>repeat(first|exact(Ok qn.out).2.2|(with_reducible refine Oo ?_ _)|(with_reducible refine Op ?_ _)|(with_reducible refine Oj ?_)));(case side2=>exact(Ok qn.out).2.1);(case side3=>repeat(first|exact(Oq qo.out).2.2|(with_reducible refine Oo ?_ _)|(with_reducible refine Op ?_ _)|(with_reducible refine Oj ?_)));(case side4=>exact(Oq qo.out).2.1);rintro e w111 ⟨v357,rfl,yi,hb⟩;refine⟨_,rfl,?_⟩;have qs:=Oa (On (by(with_reducible repeat(first|apply Od|apply Oc|apply Ob));exact qn.out) hb);have qt:=Oa (Kd.N_elder' (by(with_reducible repeat(first|apply Om|apply Ol|apply Of));exact qo.out) (Os yi) hb);have qu:=Oa (Kd.R_lower yi (Ov (by repeat(first|(with_reducible first|exact HB.out|apply Oi|apply Oe|apply Oh)|exact HB.out))));have qv:=Oa (below_step (by repeat(first|(with_reducible first|exact HB.out|apply Oi|apply Oe|apply Oh)|exact HB.out)) hb);clear qn;clear qo;clear HB;have qn:=qs;have qo:=qt;have qp:=qu;have HB:=qv;clear qs qt qu qv;(try clear hb);(try clear hb2);(try clear hk);(try clear hi);(try clear yi))|((with_reducible refine Ot (f:=51) rfl ?_);refine goesL_ (some 35) rfl rfl Try.func51 (by kernel_rfl) rfl #[.slice Ao109 qa.length co109,.slice Ao110 qd.length co110] rfl (by(try simp only [List.map_toArray,List.map_cons,List.map_nil]);first|done|rfl|(simp only [List.length_drop,List.length_take];rfl)) ?_;(with_reducible refine(spec_Pack.calls k _ _ qa _ _ qd t359 zq _ ?side1 ?side2 ?side3 ?side4 A6.out).mono ?_);(case side1=>repeat(first|exact(Ok qn.out).2.2|(with_reducible refine Oo ?_ _)|(with_reducible refine Op ?_ _)|(with_reducible refine Oj ?_)));(case side2=>exact(Ok qn.out).2.1);(case side3=>repeat(first|exact(Oq qo.out).2.2|(with_reducible refine Oo ?_ _)|(with_reducible refine Op ?_ _)|(with_reducible refine Oj ?_)));(case side4=>exact(Oq qo.out).2.1);rintro e w112 ⟨v361,rfl,yi,hb⟩;refine⟨_,rfl,?_⟩;have qs:=Oa (On (by(with_reducible repeat(first|apply Od|apply Oc|apply Ob));exact qn.out) hb);have qt:=Oa (Kd.N_elder' (by(with_reducible repeat(first|apply Om|apply Ol|apply Of));exact qo.out) (Os yi) hb);have qu:=Oa (Kd.R_elder' (by(with_reducible repeat(first|apply Od|apply Oc|apply Ob));exact qp.out) (Os yi) hb);have qv:=Oa (Kd.R_lower (Kd.R_new' yi (Kd.R_lt (by(with_reducible repeat(first|apply Od|apply Oc|apply Ob));exact qp.out))) (Ov (by repeat(first|(with_reducible first|exact HB.out|apply Oi|apply Oe|apply Oh)|exact HB.out))));have yd:=Oa (below_step (by repeat(first|(with_reducible first|exact HB.out|apply Oi|apply Oe|apply Oh)|exact HB.out)) hb);clear qn;clear qo;clear qp;clear HB;have qn:=qs;have qo:=qt;have qp:=qu;have yr:=qv;have HB:=yd;clear qs qt qu qv yd;(try clear hb);(try clear hb2);(try clear hk);(try clear hi);(try clear yi);obtain⟨Ao113,co113,eo113⟩:=Ou qp.out;subst eo113))
    go_ret
    exact⟨by first|rfl|(simp [errW_none,errW_some] <;> rfl)|(simp [*,errW_none,errW_some] <;> rfl),by repeat(first|(with_reducible first|exact HB.out|apply Oi|apply Oe|apply Oh)|exact HB.out)⟩

/-- THE ONE PURE STATEMENT of laws_FnPacked: yours. -/
def laws_FnPacked.Pure : Prop := ∀ (l0 : List Int), l0.length ≤ maxLen → l0.length * 1 ≤ 140737488351232 → (∀ x ∈ l0, (Lit.int .u8 x).wf = true) → ∃ k, laws_FnPacked.f k l0 = some true
theorem laws_FnPacked.walk (P : laws_FnPacked.Pure) (a0 : Option Addr) (len0 cap0 : Nat) (z0 : List Int) (w : World) (w0 : (a0 = none ∧ len0 = 0 ∧ cap0 = 0 ∧ z0 = []) ∨ ∃ x, a0 = some x ∧ len0 ≤ cap0 ∧ cap0 ≤ maxLen ∧ z0.length = cap0 ∧ (∀ i, i < z0.length → w.cell? (x.add i) = some (.int .u8 (z0.getD i 0))) ∧ ∀ n ∈ z0, (Lit.int .u8 n).wf = true) (y0 : len0 * 1 ≤ 140737488351232) :
  Calls Try.prog 11 #[.slice a0 len0 cap0] w fun e w'=>e=.returned (.bool true)∧Below w.heap.size w w':=by
 obtain⟨l0,rfl,hr0,hm0,hw0,hc0⟩:=ReadsInt.ofRowC w0
 obtain⟨k,h⟩:=P l0 hm0 y0 hw0
 refine(laws_FnPacked.calls k _ _ l0 true w (Kd.C_of_reads (d:=(0:Int)) (h1:=fun _=>rfl) hr0) hc0 h).mono ?_
 rintro e w' ⟨rfl,hd⟩
 exact⟨rfl,hd⟩

end Go.Proofs.Ytelcpfanjjfgdaa.HFnPacked
