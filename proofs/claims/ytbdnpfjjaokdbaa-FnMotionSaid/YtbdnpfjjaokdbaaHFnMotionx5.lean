-- Laid by myprint.py, a program of this repo, out of the kit's printer and this repo's own texts (wip/hand).
import Derived.Test.YtbdnpfjjaokdbaaHFnMotionx0
import Derived.Test.YtbdnpfjjaokdbaaHFnMotionx3
import Derived.Test.YtbdnpfjjaokdbaaHFnMotionx4
namespace Go.Proofs.Ytbdnpfjjaokdbaa.HFnMotion
open Go.RowKit Go.Proofs.YtbdnpfjjaokdbaaW.PrintWords Go.Proofs.YtbdnpfjjaokdbaaW.PrintLast Go.Proofs.YtbdnpfjjaokdbaaW.PrintMore
attribute [local go_sem] max2_int min2_int max_two min_two max_three min_three max_four min_four   -- for this text's walks alone
set_option linter.unusedVariables false
set_option linter.unusedSimpArgs false
theorem Fa : type_of% @Aside0.mk := @Aside0.mk
theorem Fb : type_of% @pw_below_drewN := @pw_below_drewN
theorem Fc : type_of% @blk_drew := @blk_drew
theorem Fd : type_of% @below_set := @below_set
theorem Fe : type_of% @below_alloc := @below_alloc
theorem Ff : type_of% @below_drew1 := @below_drew1
theorem Fg : type_of% @Kd.R_drew := @Kd.R_drew
theorem Fh : type_of% @blk_alloc := @blk_alloc
theorem Fi : type_of% @blk_drewN := @blk_drewN
theorem Fj : type_of% @blk_frozen := @blk_frozen
theorem Fk : type_of% @Kd.R_drewN := @Kd.R_drewN
theorem Fl : type_of% @Kd.R_alloc := @Kd.R_alloc
theorem Fm : type_of% @blk_below := @blk_below
theorem Fn : type_of% @blk_cell := @blk_cell
theorem Fo : type_of% @Kd.C_drew := @Kd.C_drew
theorem Fp : type_of% @below_size := @below_size
theorem Fq : type_of% @below_step := @below_step
theorem Fr : type_of% @Kd.R_below := @Kd.R_below
theorem Fs : type_of% @Kd.C_alloc := @Kd.C_alloc
theorem Ft : type_of% @Kd.C_drewN := @Kd.C_drewN
theorem Fu : type_of% @Kd.R_reads' := @Kd.R_reads'
theorem Fv : type_of% @Kd.C_below := @Kd.C_below
theorem Fw : type_of% @KeepBut.set_ := @KeepBut.set_

def impl_motion_go (k : Nat) : S89 → List S89 → Option (Int × Int × Int)
 | m, [] => some (m.f0, m.f1, m.f2)
 | m, x :: xs => (impl_motion_1.f k x.f0 x.f1 x.f2 m.f0 m.f1 m.f2).bind fun t => if t < 0 then impl_motion_go k x xs else impl_motion_go k m xs
def impl_motion_min.f (k : Nat) (l0 : List S89) : Option (Int × Int × Int) := match l0 with
 | [] => none
 | x :: xs => impl_motion_go k x xs
theorem impl_motion_go_mono (k : Nat) : ∀ (xs : List S89) (m : S89), LeO (impl_motion_go k m xs) (impl_motion_go (k + 1) m xs)
 | [], m => LeO.refl _
 | x :: xs, m => by
  unfold impl_motion_go
  refine LeO.bind (impl_motion_1.mono _ _ _ _ _ _ _) (fun t=>LeO.ite (impl_motion_go_mono k xs x) (impl_motion_go_mono k xs m))
theorem impl_motion_min.mono : ∀ a0 k, LeO (impl_motion_min.f k a0) (impl_motion_min.f (k + 1) a0)
 | [], k => LeO.refl _
 | x :: xs, k => impl_motion_go_mono k xs x
theorem impl_motion_two (w : World) (o1 o2 : Obj) : ((w.alloc o1).alloc o2).heap[w.heap.size + 1]? = some o2 := by
 have h:=Go.Deep.blk_alloc_new (w.alloc o1) o2
 have e:(w.alloc o1).heap.size=w.heap.size+1:=Array.size_push _
 rwa [e] at h
set_option maxHeartbeats 2000000 in
set_option maxRecDepth 100000 in
theorem impl_motion_min.calls (k : Nat) (A0 : Option Addr) (c0 : Nat) (l0 : List S89) (r1 r2 r3 : Int) (w : World) (hr0 : Kd.C k89 w A0 l0.length l0) (hc0 : l0.length ≤ c0) (h : impl_motion_min.f k l0 = some (r1, r2, r3)) :
  Calls Try.prog 88 #[.slice A0 l0.length c0,.func (.func 89) #[] #[]] w fun e w'=>e=.returned (.agg #[.int .i64 r1,.int .i64 r2,.int .i64 r3])∧Below w.heap.size w w':=by
 have huW:=Try.underlying89
 have HR0:=Fa hr0
 have HC0:=Fa hc0
 have HM0:=Fa hr0.2.1
 clear hr0 hc0
 have hpos:0 < l0.length:=by
  cases l0 with
  | nil => exact absurd h (by simp [impl_motion_min.f])
  | cons x xs => simp
 have H:=Fa (show impl_motion_go k (rd_T89 l0 0) (l0.drop 1)=some (r1,r2,r3) by
  cases l0 with
  | nil => exact absurd hpos (by simp)
  | cons x xs => exact h)
 clear h
 obtain⟨ad,e0,m0,m1,m2⟩:=at_T89 HR0.out (0:Int) (by omega) (by omega)
 cases e0
 rw [show ad.add (Int.toNat 0*3)=ad by cases ad;rfl] at m0 m1 m2
 generalize rd_T89 l0 0=x0 at H m0 m1 m2
 have c1:decide ((l0.length:Int) < 1)=false:=decide_eq_false (by omega)
 have q0:((0:Int) < (l0.length:Int))=True:=eq_true (by omega)
 have r0:(0 < l0.length)=True:=eq_true hpos
 have hb0:ad.block < w.heap.size:=World.block_lt_of_cell? _ _ m0
 have n0:=((Fe (Below.refl w.heap.size w) (.cells #[.int .i64 0,.int .i64 0,.int .i64 0] 89 (0,0))).cell (p:=ad) hb0).trans m0
 have n1:=((Fe (Below.refl w.heap.size w) (.cells #[.int .i64 0,.int .i64 0,.int .i64 0] 89 (0,0))).cell (p:=⟨ad.block,ad.off+1,none⟩) hb0).trans m1
 have n2:=((Fe (Below.refl w.heap.size w) (.cells #[.int .i64 0,.int .i64 0,.int .i64 0] 89 (0,0))).cell (p:=⟨ad.block,ad.off+2,none⟩) hb0).trans m2
 have HPOS:=Fa hpos
 clear hpos m0 m1 m2
 go_enter Try.func88,Try.ntmps88
 go_wp2
 clear n0 n1 n2 hb0
 go_loopg [6] l0.length (fun gg v6 w'=>∃ (kk:Nat) (m:S89),Aside0 (1≤kk∧kk≤l0.length∧l0.length - kk≤gg)∧v6=.int .i64 (kk:Int)∧Aside0 (impl_motion_go k m (l0.drop kk)=some (r1,r2,r3))∧Aside0 (w'.heap[w.heap.size]? = some (.cells #[.int .i64 0,.int .i64 0,.int .i64 0] 89 (0,0)))∧Aside0 (w'.heap[w.heap.size+1]? = some (.cells #[.int .i64 m.f0,.int .i64 m.f1,.int .i64 m.f2] 89 (0,0)))∧Aside0 (Below w.heap.size w w'))
 case atStart=>exact⟨1,x0,⟨by omega,by have:=HPOS.out;omega,by omega⟩,rfl,H,⟨Fh (Go.Deep.blk_alloc_new w _) _⟩,⟨impl_motion_two w _ _⟩,⟨Fe (Fe (Below.refl _ _) _) _⟩⟩
 case round=>
  clear H
  obtain⟨kk,m,HK,rfl,HI,BT,BM,HB⟩:=hrel
  have HM2:l0.length≤9223372036854775807:=HM0.out
  by_cases hlt:kk < l0.length
  ·have HI2:((impl_motion_1.f k (rd_T89 l0 (kk:Int)).f0 (rd_T89 l0 (kk:Int)).f1 (rd_T89 l0 (kk:Int)).f2 m.f0 m.f1 m.f2).bind fun t=>if t < 0 then impl_motion_go k (rd_T89 l0 (kk:Int)) (l0.drop (kk+1)) else impl_motion_go k m (l0.drop (kk+1)))=some (r1,r2,r3):=by
    have:=HI.out
    rw [List.drop_eq_getElem_cons hlt] at this
    have e:l0[kk]=rd_T89 l0 (kk:Int):=by simp [rd_T89,List.getD_eq_getElem?_getD,List.getElem?_eq_getElem hlt]
    rw [e] at this
    exact this
   clear HI
   obtain⟨t,ht,HI3⟩:=Option.bind_eq_some_iff.1 HI2
   clear HI2
   have HT:=Fa ht
   clear ht
   obtain⟨ad2,e2,m0,m1,m2⟩:=at_T89 (Fv HR0.out HB.out) (kk:Int) (by omega) (by omega)
   cases e2
   simp only [Int.toNat_natCast] at m0 m1 m2
   generalize rd_T89 l0 (kk:Int)=x at HT HI3 m0 m1 m2
   have hltb:decide ((kk:Int) < (l0.length:Int))=true:=decide_eq_true (by omega)
   have p0:(0≤(kk:Int))=True:=eq_true (by omega)
   have q1:((kk:Int) < (l0.length:Int))=True:=eq_true (by omega)
   have g0:wr.cell? ⟨w.heap.size+1,0,none⟩=some (.int .i64 m.f0):=(Fn BM.out 0).trans rfl
   have g1:wr.cell? ⟨w.heap.size+1,1,none⟩=some (.int .i64 m.f1):=(Fn BM.out 1).trans rfl
   have g2:wr.cell? ⟨w.heap.size+1,2,none⟩=some (.int .i64 m.f2):=(Fn BM.out 2).trans rfl
   have HI4:=Fa HI3
   clear HI3
   go_wp2
   have hstep:wrap64 ((kk:Int)+1)=((kk+1:Nat):Int):=by unfold wrap64;omega
   have HST:=Fa hstep
   clear hstep
   by_cases ht0:t < 0
   ·have cT:decide (t < 0)=true:=decide_eq_true ht0
    have HI5:=Fa (show impl_motion_go k x (l0.drop (kk+1))=some (r1,r2,r3) by have:=HI4.out;rwa [if_pos ht0] at this)
    clear HI4 ht0
    go_region_held3 (fun w'=>w'.cell? (ad.add (kk*3))=some (.int .i64 x.f0)∧w'.cell? (⟨(ad.add (kk*3)).block,(ad.add (kk*3)).off+1,none⟩)=some (.int .i64 x.f1)∧w'.cell? (⟨(ad.add (kk*3)).block,(ad.add (kk*3)).off+2,none⟩)=some (.int .i64 x.f2)∧w'.cell? ⟨w.heap.size+1,0,none⟩=some (.int .i64 m.f0)∧w'.cell? ⟨w.heap.size+1,1,none⟩=some (.int .i64 m.f1)∧w'.cell? ⟨w.heap.size+1,2,none⟩=some (.int .i64 m.f2)) (go_keep) ((go_at_call 89;refine(impl_motion_1.calls k _ _ _ _ _ _ t _ HT.out).mono ?_;rintro e w5 ⟨rfl,hb5⟩;have hh_:=‹_∧_∧_∧_∧_∧_›;have k0:=(hb5.cell (World.block_lt_of_cell? _ _ hh_.1)).trans hh_.1;have k1:=(hb5.cell (World.block_lt_of_cell? _ _ hh_.2.1)).trans hh_.2.1;have k2:=(hb5.cell (World.block_lt_of_cell? _ _ hh_.2.2.1)).trans hh_.2.2.1;have k3:=(hb5.cell (World.block_lt_of_cell? _ _ hh_.2.2.2.1)).trans hh_.2.2.2.1;have k4:=(hb5.cell (World.block_lt_of_cell? _ _ hh_.2.2.2.2.1)).trans hh_.2.2.2.2.1;have k5:=(hb5.cell (World.block_lt_of_cell? _ _ hh_.2.2.2.2.2)).trans hh_.2.2.2.2.2;clear hh_;have HB5:=Fa hb5;clear hb5))
    all_goals (
     have HF:=Fa (Fq (by repeat(first|exact Below.refl wr.heap.size wr|apply Ff)) HB5.out)
     have HB2:=Fa (Fq HB.out HF.out)
     have BT2:=Fa (Fm BT.out HF.out)
     have BM2:=Fa (Fm BM.out HF.out)
     clear HB BT BM HF HB5 m0 m1 m2 g0 g1 g2
     have f0:=Fj BM2.out 0
     have f1:=Fj BM2.out 1
     have f2:=Fj BM2.out 2
     go_wp2
     go_roundg (l0.length - (kk+1))
     (case measure=>(have:=HK.out;omega))
     (case rel=>exact⟨kk+1,x,⟨by omega,by omega,by omega⟩,by first|rfl|go_num|(rw [HST.out]),HI5,⟨blk_far (blk_far (blk_far BT2.out (by simp) _) (by simp) _) (by simp) _⟩,⟨blk_put (blk_put (blk_put BM2.out 0 _ rfl) 1 _ rfl) 2 _ rfl⟩,⟨Fd (Fd (Fd HB2.out (Nat.le_succ _)) (Nat.le_succ _)) (Nat.le_succ _)⟩⟩))
   ·have cT:decide (t < 0)=false:=decide_eq_false ht0
    have HI5:=Fa (show impl_motion_go k m (l0.drop (kk+1))=some (r1,r2,r3) by have:=HI4.out;rwa [if_neg ht0] at this)
    clear HI4 ht0
    go_region_held3 (fun w'=>w'.cell? (ad.add (kk*3))=some (.int .i64 x.f0)∧w'.cell? (⟨(ad.add (kk*3)).block,(ad.add (kk*3)).off+1,none⟩)=some (.int .i64 x.f1)∧w'.cell? (⟨(ad.add (kk*3)).block,(ad.add (kk*3)).off+2,none⟩)=some (.int .i64 x.f2)∧w'.cell? ⟨w.heap.size+1,0,none⟩=some (.int .i64 m.f0)∧w'.cell? ⟨w.heap.size+1,1,none⟩=some (.int .i64 m.f1)∧w'.cell? ⟨w.heap.size+1,2,none⟩=some (.int .i64 m.f2)) (go_keep) ((go_at_call 89;refine(impl_motion_1.calls k _ _ _ _ _ _ t _ HT.out).mono ?_;rintro e w5 ⟨rfl,hb5⟩;have hh_:=‹_∧_∧_∧_∧_∧_›;have k0:=(hb5.cell (World.block_lt_of_cell? _ _ hh_.1)).trans hh_.1;have k1:=(hb5.cell (World.block_lt_of_cell? _ _ hh_.2.1)).trans hh_.2.1;have k2:=(hb5.cell (World.block_lt_of_cell? _ _ hh_.2.2.1)).trans hh_.2.2.1;have k3:=(hb5.cell (World.block_lt_of_cell? _ _ hh_.2.2.2.1)).trans hh_.2.2.2.1;have k4:=(hb5.cell (World.block_lt_of_cell? _ _ hh_.2.2.2.2.1)).trans hh_.2.2.2.2.1;have k5:=(hb5.cell (World.block_lt_of_cell? _ _ hh_.2.2.2.2.2)).trans hh_.2.2.2.2.2;clear hh_;have HB5:=Fa hb5;clear hb5))
    all_goals (
     have HF:=Fa (Fq (by repeat(first|exact Below.refl wr.heap.size wr|apply Ff)) HB5.out)
     have HB2:=Fa (Fq HB.out HF.out)
     have BT2:=Fa (Fm BT.out HF.out)
     have BM2:=Fa (Fm BM.out HF.out)
     clear HB BT BM HF HB5 m0 m1 m2 g0 g1 g2
     go_wp2
     go_roundg (l0.length - (kk+1))
     (case measure=>(have:=HK.out;omega))
     (case rel=>exact⟨kk+1,m,⟨by omega,by omega,by omega⟩,by first|rfl|go_num|(rw [HST.out]),HI5,BT2,BM2,HB2⟩))
  ·have hltb:decide ((kk:Int) < (l0.length:Int))=false:=decide_eq_false (by omega)
   have hi:kk=l0.length:=by have:=HK.out;omega
   have hr:m.f0=r1∧m.f1=r2∧m.f2=r3:=by
    have:=HI.out
    rw [hi,List.drop_length] at this
    simpa [impl_motion_go] using this
   obtain⟨rfl,rfl,rfl⟩:=hr
   have g0:wr.cell? ⟨w.heap.size+1,0,none⟩=some (.int .i64 m.f0):=(Fn BM.out 0).trans rfl
   have g1:wr.cell? ⟨w.heap.size+1,1,none⟩=some (.int .i64 m.f1):=(Fn BM.out 1).trans rfl
   have g2:wr.cell? ⟨w.heap.size+1,2,none⟩=some (.int .i64 m.f2):=(Fn BM.out 2).trans rfl
   have d0:wr.cell? ⟨w.heap.size,0,none⟩=some (.int .i64 0):=(Fn BT.out 0).trans rfl
   have d1:wr.cell? ⟨w.heap.size,1,none⟩=some (.int .i64 0):=(Fn BT.out 1).trans rfl
   have d2:wr.cell? ⟨w.heap.size,2,none⟩=some (.int .i64 0):=(Fn BT.out 2).trans rfl
   have f0:=Fj BT.out 0
   have f1:=Fj BT.out 1
   have f2:=Fj BT.out 2
   clear HI
   go_wp2
   refine bodyPost_ret (results_cell_row rfl _ _ w.heap.size 89 #[.int .i64 m.f0,.int .i64 m.f1,.int .i64 m.f2] (0,0) _ rfl (blk_put (blk_put (blk_put BT.out 0 _ rfl) 1 _ rfl) 2 _ rfl) huW rfl (by kernel_rfl)) rfl ?_
   exact⟨rfl,Fd (Fd (Fd HB.out (Nat.le_refl _)) (Nat.le_refl _)) (Nat.le_refl _)⟩

/-! ### impl_motion: function 71 -/
mutual
def impl_motion.l0 : Nat → Int → List Int → List (S89) → Int → Int → Int → List Int → Option (Int × Int)
 | 0, _, _, _, _, _, _, _ => none
 | k + 1, x2, x8, x9, x10, x183000, x183001, x183002 => if x10 ≤ 2 then (impl_motion.l1 k x2 x8 x9 x10 (-2) x183000 x183001 x183002) else ((impl_motion_min.f k x9).bind fun bt190 => (some (bt190.2.1, bt190.2.2)))
def impl_motion.l1 : Nat → Int → List Int → List (S89) → Int → Int → Int → Int → List Int → Option (Int × Int)
 | 0, _, _, _, _, _, _, _, _ => none
 | k + 1, x2, x8, x9, x10, x11, x183000, x183001, x183002 => if x11 ≤ 2 then ((impl_Picture_at.f k x183000 x183001 x183002 x2 x11 x10).bind fun t194 => ((impl_offBy.f k x8 t194).bind fun t197 => (if x9.length < 5864062014805 then (impl_motion.l1 k x2 x8 (x9 ++ [(⟨t197, x11, x10⟩ : S89)]) x10 (wrap64 (x11 + 1)) x183000 x183001 x183002) else (none)))) else (impl_motion.l0 k x2 x8 x9 (wrap64 (x10 + 1)) x183000 x183001 x183002)
end
def impl_motion.f (k : Nat) (a0_0 : Int) (a0_1 : Int) (l0_2 : List Int) (a1_0 : Int) (a1_1 : Int) (l1_2 : List Int) (a2 : Int) : Option (Int × Int) := (impl_Picture_at.f k a1_0 a1_1 l1_2 a2 0 0).bind fun t184 => (impl_motion.l0 k a2 t184 (([] : List (S89))) (-2) a0_0 a0_1 l0_2)
theorem impl_motion.mono_l : ∀ k, (∀ y0 y1 y2 y3 y4 y5 y6, LeO (impl_motion.l0 k y0 y1 y2 y3 y4 y5 y6) (impl_motion.l0 (k + 1) y0 y1 y2 y3 y4 y5 y6)) ∧ (∀ y0 y1 y2 y3 y4 y5 y6 y7, LeO (impl_motion.l1 k y0 y1 y2 y3 y4 y5 y6 y7) (impl_motion.l1 (k + 1) y0 y1 y2 y3 y4 y5 y6 y7))
 | 0 => ⟨fun _ _ _ _ _ _ _ r h => by simp [impl_motion.l0] at h, fun _ _ _ _ _ _ _ _ r h => by simp [impl_motion.l1] at h⟩
 | k + 1 => by
  obtain⟨ih0,ih1⟩:=impl_motion.mono_l k
  refine⟨?_,?_⟩
  ·intro y0 y1 y2 y3 y4 y5 y6
   unfold impl_motion.l0
   repeat' first
   | (with_reducible exact ih0 _ _ _ _ _ _ _)
   | (with_reducible exact ih1 _ _ _ _ _ _ _ _)
   | (with_reducible exact impl_Picture_at.mono _ _ _ _ _ _ _)
   | (with_reducible exact impl_motion_min.mono _ _)
   | (with_reducible exact impl_offBy.mono _ _ _)
   | (with_reducible exact LeO.refl _)
   | (with_reducible exact LeO.none _)
   | (with_reducible refine LeO.ite ?_ ?_)
   | (with_reducible refine LeO.bind ?_ (fun _ => ?_))
   | exact ih0 _ _ _ _ _ _ _
   | exact ih1 _ _ _ _ _ _ _ _
   | exact impl_Picture_at.mono _ _ _ _ _ _ _
   | exact impl_motion_min.mono _ _
   | exact impl_offBy.mono _ _ _
   | exact LeO.none _
   | refine LeO.ite ?_ ?_
   | refine LeO.bind ?_ (fun _ => ?_)
  ·intro y0 y1 y2 y3 y4 y5 y6 y7
   unfold impl_motion.l1
   repeat' first
   | (with_reducible exact ih0 _ _ _ _ _ _ _)
   | (with_reducible exact ih1 _ _ _ _ _ _ _ _)
   | (with_reducible exact impl_Picture_at.mono _ _ _ _ _ _ _)
   | (with_reducible exact impl_motion_min.mono _ _)
   | (with_reducible exact impl_offBy.mono _ _ _)
   | (with_reducible exact LeO.refl _)
   | (with_reducible exact LeO.none _)
   | (with_reducible refine LeO.ite ?_ ?_)
   | (with_reducible refine LeO.bind ?_ (fun _ => ?_))
   | exact ih0 _ _ _ _ _ _ _
   | exact ih1 _ _ _ _ _ _ _ _
   | exact impl_Picture_at.mono _ _ _ _ _ _ _
   | exact impl_motion_min.mono _ _
   | exact impl_offBy.mono _ _ _
   | exact LeO.none _
   | refine LeO.ite ?_ ?_
   | refine LeO.bind ?_ (fun _ => ?_)
theorem impl_motion.mono : ∀ a0 a1 a2 a3 a4 a5 a6 k, LeO (impl_motion.f k a0 a1 a2 a3 a4 a5 a6) (impl_motion.f (k + 1) a0 a1 a2 a3 a4 a5 a6) := by
 intro a0 a1 a2 a3 a4 a5 a6 k
 obtain⟨ih0,ih1⟩:=impl_motion.mono_l k
 unfold impl_motion.f
 repeat' first
   | (with_reducible exact ih0 _ _ _ _ _ _ _)
   | (with_reducible exact ih1 _ _ _ _ _ _ _ _)
   | (with_reducible exact impl_Picture_at.mono _ _ _ _ _ _ _)
   | (with_reducible exact impl_motion_min.mono _ _)
   | (with_reducible exact impl_offBy.mono _ _ _)
   | (with_reducible exact LeO.refl _)
   | (with_reducible exact LeO.none _)
   | (with_reducible refine LeO.ite ?_ ?_)
   | (with_reducible refine LeO.bind ?_ (fun _ => ?_))
   | exact ih0 _ _ _ _ _ _ _
   | exact ih1 _ _ _ _ _ _ _ _
   | exact impl_Picture_at.mono _ _ _ _ _ _ _
   | exact impl_motion_min.mono _ _
   | exact impl_offBy.mono _ _ _
   | exact LeO.none _
   | refine LeO.ite ?_ ?_
   | refine LeO.bind ?_ (fun _ => ?_)
set_option maxHeartbeats 8000000 in
set_option maxRecDepth 100000 in
theorem impl_motion.calls (k : Nat) (a0_0 : Int) (a0_1 : Int) (A0_2 : Option Addr) (c0_2 : Nat) (l0_2 : List Int) (a1_0 : Int) (a1_1 : Int) (A1_2 : Option Addr) (c1_2 : Nat) (l1_2 : List Int) (a2 : Int) (r1 : Int) (r2 : Int) (w : World) (hr0_2 : Kd.C (Kd.int .i64) w A0_2 l0_2.length l0_2) (hc0_2 : l0_2.length ≤ c0_2) (hr1_2 : Kd.C (Kd.int .i64) w A1_2 l1_2.length l1_2) (hc1_2 : l1_2.length ≤ c1_2) (h : impl_motion.f k a0_0 a0_1 l0_2 a1_0 a1_1 l1_2 a2 = some (r1, r2)) :
  Calls Try.prog 71 #[.agg #[.int .i64 a0_0,.int .i64 a0_1,.slice A0_2 l0_2.length c0_2],.agg #[.int .i64 a1_0,.int .i64 a1_1,.slice A1_2 l1_2.length c1_2],.int .i64 a2] w fun e w'=>e=.returned (.tuple #[.int .i64 r1,.int .i64 r2])∧Below w.heap.size w w':=by
 have hu27:=Try.underlying27
 have hu89:=Try.underlying89
 have HR0_2:=Fa hr0_2
 have HC0_2:=Fa hc0_2
 clear hr0_2 hc0_2
 have HR1_2:=Fa hr1_2
 have HC1_2:=Fa hc1_2
 clear hr1_2 hc1_2
 have HB:=Fa (Below.refl w.heap.size w)
 have H:((impl_Picture_at.f k a1_0 a1_1 l1_2 a2 0 0).bind fun t184=>(impl_motion.l0 k a2 t184 (([]:List (S89))) (-2) a0_0 a0_1 l0_2))=some (r1,r2):=h
 clear h
 replace H:=Option.bind_eq_some_iff.mp H
 obtain⟨t184,A40,H⟩:=H
 replace H:(impl_motion.l0 k a2 t184 (([]:List (S89))) (-2) a0_0 a0_1 l0_2)=some (r1,r2):=H
 have A4:=Fa A40
 clear A40
 obtain⟨y187,hy187⟩:∃ y_:List (S89),y_=(([]:List (S89))):=⟨_,rfl⟩
 replace H:(impl_motion.l0 k a2 t184 y187 (-2) a0_0 a0_1 l0_2)=some (r1,r2):=by first|(rw [hy187];with_reducible exact H)|(have H2_:=(Option.bind_some _ _).symm.trans H;rw [hy187];with_reducible exact H2_)|(have H2_:=(Option.bind_some _ _).symm.trans H;with_reducible exact H2_)|with_reducible exact H|(rw [hy187];exact H)|exact H
 have Ny187:=Fa hy187
 clear hy187
 have H':=Fa H
 clear H
 go_enter Try.func71,Try.ntmps71
 go_wp2_with (first|((with_reducible refine gate_dst (N:=3) rfl ?_);refine box_event ?hg (N:=3) ?hd (cs:=#[.int .i64 a0_0,.int .i64 a0_1,.slice A0_2 l0_2.length c0_2]) (t:=27) ?hr ?_;(case hd=>rfl);(case hg=>rfl);(case hr=>first|(go_simp;done)|(go_simp;rfl));intro gb182 hg w5 hbox hb;have n0_:=Fa (Fq (by repeat(first|(with_reducible first|exact HB.out|apply Fe|apply Fb|apply Ff)|exact HB.out)) hb);have n1_:=Fa (hbox);have n2_:=Fa ((by rw [hg];exact(Fp (by repeat(first|(with_reducible first|exact HB.out|apply Fe|apply Fb|apply Ff)|exact HB.out))):w.heap.size≤gb182));have n3_:=Fa ((by rw [hg];exact(Fp (by repeat(first|(with_reducible first|exact HB.out|apply Fe|apply Fb|apply Ff)|exact HB.out))):w.heap.size≤gb182));clear HB;have HB:=n0_;have BK182:=n1_;have GW182:=n2_;have GE182:=n3_;clear n0_ n1_ n2_ n3_;clear hb hbox hg)|((with_reducible refine gate_dst (N:=4) rfl ?_);refine box_event ?hg (N:=4) ?hd (cs:=#[.int .i64 a1_0,.int .i64 a1_1,.slice A1_2 l1_2.length c1_2]) (t:=27) ?hr ?_;(case hd=>rfl);(case hg=>rfl);(case hr=>first|(go_simp;done)|(go_simp;rfl));intro gb183 hg w6 hbox hb;have n0_:=Fa (Fm (g:=gb182) (o:=.cells #[.int .i64 a0_0,.int .i64 a0_1,.slice A0_2 l0_2.length c0_2] 27 (0,0)) (by(with_reducible repeat(first|refine Fi ?_ _|refine Fc ?_|refine Fh ?_ _));exact BK182.out) hb);have n1_:=Fa (Fq (by repeat(first|(with_reducible first|exact HB.out|apply Fe|apply Fb|apply Ff|refine Fd ?_ GE182.out)|exact HB.out)) hb);have n2_:=Fa (hbox);have n3_:=Fa ((by rw [hg];exact(Fp (by repeat(first|(with_reducible first|exact HB.out|apply Fe|apply Fb|apply Ff|refine Fd ?_ GE182.out)|exact HB.out))):w.heap.size≤gb183));have n4_:=Fa ((by rw [hg];exact(Fp (by repeat(first|(with_reducible first|exact HB.out|apply Fe|apply Fb|apply Ff|refine Fd ?_ GE182.out)|exact HB.out))):w.heap.size≤gb183));have n5_:=Fa ((by rw [hg];exact Nat.ne_of_lt (blk_lt (g:=gb182) (o:=.cells #[.int .i64 a0_0,.int .i64 a0_1,.slice A0_2 l0_2.length c0_2] 27 (0,0)) (by(with_reducible repeat(first|refine Fi ?_ _|refine Fc ?_|refine Fh ?_ _));exact BK182.out)):gb182≠gb183));have n6_:=Fa ((by rw [hg];exact Nat.ne_of_gt (blk_lt (g:=gb182) (o:=.cells #[.int .i64 a0_0,.int .i64 a0_1,.slice A0_2 l0_2.length c0_2] 27 (0,0)) (by(with_reducible repeat(first|refine Fi ?_ _|refine Fc ?_|refine Fh ?_ _));exact BK182.out)):gb183≠gb182));clear BK182;clear HB;have BK182:=n0_;have HB:=n1_;have BK183:=n2_;have GW183:=n3_;have GE183:=n4_;have NB182_183:=n5_;have NB183_182:=n6_;clear n0_ n1_ n2_ n3_ n4_ n5_ n6_;clear hb hbox hg;have hnb7:=NB183_182.out;have hnc7:=NB182_183.out;have hcz8_0:w6.cell? ⟨gb183,0,none⟩=some (.int .i64 a1_0):=(Fn BK183.out 0).trans rfl;have hcz8_1:w6.cell? ⟨gb183,1,none⟩=some (.int .i64 a1_1):=(Fn BK183.out 1).trans rfl;have hcz8_2:w6.cell? ⟨gb183,2,none⟩=some (.slice A1_2 l1_2.length c1_2):=(Fn BK183.out 2).trans rfl;have hfz8_0:=Fj BK183.out 0;have hfz8_1:=Fj BK183.out 1;have hfz8_2:=Fj BK183.out 2)|(go_at_call 78;(with_reducible refine(impl_Picture_at.calls k a1_0 a1_1 _ _ l1_2 a2 0 0 t184 _ ?side1 ?side2 A4.out).mono ?_);(case side1=>repeat(first|exact(Fv HR1_2.out HB.out)|(with_reducible refine Fs ?_ _)|(with_reducible refine Ft ?_ _)|(with_reducible refine Fo ?_)));(case side2=>exact HC1_2.out);rintro e w9 ⟨v185,rfl,ho0,hb⟩;have n0_:=Fa (Kd.R_lower ho0 (Fp (by repeat(first|(with_reducible first|exact HB.out|apply Fe|apply Fb|apply Ff|refine Fd ?_ GE182.out|refine Fd ?_ GE183.out)|exact HB.out))));have n1_:=Fa (Fm (g:=gb182) (o:=.cells #[.int .i64 a0_0,.int .i64 a0_1,.slice A0_2 l0_2.length c0_2] 27 (0,0)) (by(with_reducible repeat(first|refine Fi ?_ _|refine Fc ?_|refine Fh ?_ _));exact BK182.out) hb);have n2_:=Fa (Fm (g:=gb183) (o:=.cells #[.int .i64 a1_0,.int .i64 a1_1,.slice A1_2 l1_2.length c1_2] 27 (0,0)) (by(with_reducible repeat(first|refine Fi ?_ _|refine Fc ?_|refine Fh ?_ _));exact BK183.out) hb);have n3_:=Fa (Fq (by repeat(first|(with_reducible first|exact HB.out|apply Fe|apply Fb|apply Ff|refine Fd ?_ GE182.out|refine Fd ?_ GE183.out)|exact HB.out)) hb);clear BK182;clear BK183;clear HB;have HO186:=n0_;have BK182:=n1_;have BK183:=n2_;have HB:=n3_;clear n0_ n1_ n2_ n3_;(try clear hb);(try clear hb2);(try clear hk);(try clear hi);(try clear ho0))|((with_reducible refine gate_dst (N:=16) rfl ?_);refine Kd.R_lit k89 _ 89 ?hg (N:=16) ?hd (xs:=([]:List (S89))) (inner:=[]) (ok:=fun _=>True) (okp:=fun _=>True) ?hr ?hp (fun _ hk=>hk) trivial (Below.refl _ _) (Nat.le_refl _) (by simp) ?_;(case hd=>rfl);(case hg=>rfl);(case hr=>first|(go_simp;done)|(go_simp;rfl));(case hp=>exact(Reps.none _ _));intro v188 w10 ho11 hb hg_ hnew_;clear hg_ hnew_;(first|rw [← Ny187.out] at ho11|(simp only [Int.reduceToNat] at ho11;rw [← Ny187.out] at ho11));have n0_:=Fa (Fr (by(with_reducible repeat(first|apply Fl|apply Fk|apply Fg));exact HO186.out) hb);have n1_:=Fa (Kd.R_lower ho11 (Fp (by repeat(first|(with_reducible first|exact HB.out|apply Fe|apply Fb|apply Ff|refine Fd ?_ GE182.out|refine Fd ?_ GE183.out)|exact HB.out))));have n2_:=Fa (Fm (g:=gb182) (o:=.cells #[.int .i64 a0_0,.int .i64 a0_1,.slice A0_2 l0_2.length c0_2] 27 (0,0)) (by(with_reducible repeat(first|refine Fi ?_ _|refine Fc ?_|refine Fh ?_ _));exact BK182.out) hb);have n3_:=Fa (Fm (g:=gb183) (o:=.cells #[.int .i64 a1_0,.int .i64 a1_1,.slice A1_2 l1_2.length c1_2] 27 (0,0)) (by(with_reducible repeat(first|refine Fi ?_ _|refine Fc ?_|refine Fh ?_ _));exact BK183.out) hb);have n4_:=Fa (Fq (by repeat(first|(with_reducible first|exact HB.out|apply Fe|apply Fb|apply Ff|refine Fd ?_ GE182.out|refine Fd ?_ GE183.out)|exact HB.out)) hb);clear HO186;clear BK182;clear BK183;clear HB;have HO186:=n0_;have HO189:=n1_;have BK182:=n2_;have BK183:=n3_;have HB:=n4_;clear n0_ n1_ n2_ n3_ n4_;clear hb ho11))
 repeat(go_quiet (first|((with_reducible refine gate_dst (N:=3) rfl ?_);refine box_event ?hg (N:=3) ?hd (cs:=#[.int .i64 a0_0,.int .i64 a0_1,.slice A0_2 l0_2.length c0_2]) (t:=27) ?hr ?_;(case hd=>rfl);(case hg=>rfl);(case hr=>first|(go_simp;done)|(go_simp;rfl));intro gb182 hg w5 hbox hb;have n0_:=Fa (Fq (by repeat(first|(with_reducible first|exact HB.out|apply Fe|apply Fb|apply Ff)|exact HB.out)) hb);have n1_:=Fa (hbox);have n2_:=Fa ((by rw [hg];exact(Fp (by repeat(first|(with_reducible first|exact HB.out|apply Fe|apply Fb|apply Ff)|exact HB.out))):w.heap.size≤gb182));have n3_:=Fa ((by rw [hg];exact(Fp (by repeat(first|(with_reducible first|exact HB.out|apply Fe|apply Fb|apply Ff)|exact HB.out))):w.heap.size≤gb182));clear HB;have HB:=n0_;have BK182:=n1_;have GW182:=n2_;have GE182:=n3_;clear n0_ n1_ n2_ n3_;clear hb hbox hg)|((with_reducible refine gate_dst (N:=4) rfl ?_);refine box_event ?hg (N:=4) ?hd (cs:=#[.int .i64 a1_0,.int .i64 a1_1,.slice A1_2 l1_2.length c1_2]) (t:=27) ?hr ?_;(case hd=>rfl);(case hg=>rfl);(case hr=>first|(go_simp;done)|(go_simp;rfl));intro gb183 hg w6 hbox hb;have n0_:=Fa (Fm (g:=gb182) (o:=.cells #[.int .i64 a0_0,.int .i64 a0_1,.slice A0_2 l0_2.length c0_2] 27 (0,0)) (by(with_reducible repeat(first|refine Fi ?_ _|refine Fc ?_|refine Fh ?_ _));exact BK182.out) hb);have n1_:=Fa (Fq (by repeat(first|(with_reducible first|exact HB.out|apply Fe|apply Fb|apply Ff|refine Fd ?_ GE182.out)|exact HB.out)) hb);have n2_:=Fa (hbox);have n3_:=Fa ((by rw [hg];exact(Fp (by repeat(first|(with_reducible first|exact HB.out|apply Fe|apply Fb|apply Ff|refine Fd ?_ GE182.out)|exact HB.out))):w.heap.size≤gb183));have n4_:=Fa ((by rw [hg];exact(Fp (by repeat(first|(with_reducible first|exact HB.out|apply Fe|apply Fb|apply Ff|refine Fd ?_ GE182.out)|exact HB.out))):w.heap.size≤gb183));have n5_:=Fa ((by rw [hg];exact Nat.ne_of_lt (blk_lt (g:=gb182) (o:=.cells #[.int .i64 a0_0,.int .i64 a0_1,.slice A0_2 l0_2.length c0_2] 27 (0,0)) (by(with_reducible repeat(first|refine Fi ?_ _|refine Fc ?_|refine Fh ?_ _));exact BK182.out)):gb182≠gb183));have n6_:=Fa ((by rw [hg];exact Nat.ne_of_gt (blk_lt (g:=gb182) (o:=.cells #[.int .i64 a0_0,.int .i64 a0_1,.slice A0_2 l0_2.length c0_2] 27 (0,0)) (by(with_reducible repeat(first|refine Fi ?_ _|refine Fc ?_|refine Fh ?_ _));exact BK182.out)):gb183≠gb182));clear BK182;clear HB;have BK182:=n0_;have HB:=n1_;have BK183:=n2_;have GW183:=n3_;have GE183:=n4_;have NB182_183:=n5_;have NB183_182:=n6_;clear n0_ n1_ n2_ n3_ n4_ n5_ n6_;clear hb hbox hg;have hnb7:=NB183_182.out;have hnc7:=NB182_183.out;have hcz8_0:w6.cell? ⟨gb183,0,none⟩=some (.int .i64 a1_0):=(Fn BK183.out 0).trans rfl;have hcz8_1:w6.cell? ⟨gb183,1,none⟩=some (.int .i64 a1_1):=(Fn BK183.out 1).trans rfl;have hcz8_2:w6.cell? ⟨gb183,2,none⟩=some (.slice A1_2 l1_2.length c1_2):=(Fn BK183.out 2).trans rfl;have hfz8_0:=Fj BK183.out 0;have hfz8_1:=Fj BK183.out 1;have hfz8_2:=Fj BK183.out 2)|(go_at_call 78;(with_reducible refine(impl_Picture_at.calls k a1_0 a1_1 _ _ l1_2 a2 0 0 t184 _ ?side1 ?side2 A4.out).mono ?_);(case side1=>repeat(first|exact(Fv HR1_2.out HB.out)|(with_reducible refine Fs ?_ _)|(with_reducible refine Ft ?_ _)|(with_reducible refine Fo ?_)));(case side2=>exact HC1_2.out);rintro e w9 ⟨v185,rfl,ho0,hb⟩;have n0_:=Fa (Kd.R_lower ho0 (Fp (by repeat(first|(with_reducible first|exact HB.out|apply Fe|apply Fb|apply Ff|refine Fd ?_ GE182.out|refine Fd ?_ GE183.out)|exact HB.out))));have n1_:=Fa (Fm (g:=gb182) (o:=.cells #[.int .i64 a0_0,.int .i64 a0_1,.slice A0_2 l0_2.length c0_2] 27 (0,0)) (by(with_reducible repeat(first|refine Fi ?_ _|refine Fc ?_|refine Fh ?_ _));exact BK182.out) hb);have n2_:=Fa (Fm (g:=gb183) (o:=.cells #[.int .i64 a1_0,.int .i64 a1_1,.slice A1_2 l1_2.length c1_2] 27 (0,0)) (by(with_reducible repeat(first|refine Fi ?_ _|refine Fc ?_|refine Fh ?_ _));exact BK183.out) hb);have n3_:=Fa (Fq (by repeat(first|(with_reducible first|exact HB.out|apply Fe|apply Fb|apply Ff|refine Fd ?_ GE182.out|refine Fd ?_ GE183.out)|exact HB.out)) hb);clear BK182;clear BK183;clear HB;have HO186:=n0_;have BK182:=n1_;have BK183:=n2_;have HB:=n3_;clear n0_ n1_ n2_ n3_;(try clear hb);(try clear hb2);(try clear hk);(try clear hi);(try clear ho0))|((with_reducible refine gate_dst (N:=16) rfl ?_);refine Kd.R_lit k89 _ 89 ?hg (N:=16) ?hd (xs:=([]:List (S89))) (inner:=[]) (ok:=fun _=>True) (okp:=fun _=>True) ?hr ?hp (fun _ hk=>hk) trivial (Below.refl _ _) (Nat.le_refl _) (by simp) ?_;(case hd=>rfl);(case hg=>rfl);(case hr=>first|(go_simp;done)|(go_simp;rfl));(case hp=>exact(Reps.none _ _));intro v188 w10 ho11 hb hg_ hnew_;clear hg_ hnew_;(first|rw [← Ny187.out] at ho11|(simp only [Int.reduceToNat] at ho11;rw [← Ny187.out] at ho11));have n0_:=Fa (Fr (by(with_reducible repeat(first|apply Fl|apply Fk|apply Fg));exact HO186.out) hb);have n1_:=Fa (Kd.R_lower ho11 (Fp (by repeat(first|(with_reducible first|exact HB.out|apply Fe|apply Fb|apply Ff|refine Fd ?_ GE182.out|refine Fd ?_ GE183.out)|exact HB.out))));have n2_:=Fa (Fm (g:=gb182) (o:=.cells #[.int .i64 a0_0,.int .i64 a0_1,.slice A0_2 l0_2.length c0_2] 27 (0,0)) (by(with_reducible repeat(first|refine Fi ?_ _|refine Fc ?_|refine Fh ?_ _));exact BK182.out) hb);have n3_:=Fa (Fm (g:=gb183) (o:=.cells #[.int .i64 a1_0,.int .i64 a1_1,.slice A1_2 l1_2.length c1_2] 27 (0,0)) (by(with_reducible repeat(first|refine Fi ?_ _|refine Fc ?_|refine Fh ?_ _));exact BK183.out) hb);have n4_:=Fa (Fq (by repeat(first|(with_reducible first|exact HB.out|apply Fe|apply Fb|apply Ff|refine Fd ?_ GE182.out|refine Fd ?_ GE183.out)|exact HB.out)) hb);clear HO186;clear BK182;clear BK183;clear HB;have HO186:=n0_;have HO189:=n1_;have BK182:=n2_;have BK183:=n3_;have HB:=n4_;clear n0_ n1_ n2_ n3_ n4_;clear hb ho11));try go_wp2_with (first|((with_reducible refine gate_dst (N:=3) rfl ?_);refine box_event ?hg (N:=3) ?hd (cs:=#[.int .i64 a0_0,.int .i64 a0_1,.slice A0_2 l0_2.length c0_2]) (t:=27) ?hr ?_;(case hd=>rfl);(case hg=>rfl);(case hr=>first|(go_simp;done)|(go_simp;rfl));intro gb182 hg w5 hbox hb;have n0_:=Fa (Fq (by repeat(first|(with_reducible first|exact HB.out|apply Fe|apply Fb|apply Ff)|exact HB.out)) hb);have n1_:=Fa (hbox);have n2_:=Fa ((by rw [hg];exact(Fp (by repeat(first|(with_reducible first|exact HB.out|apply Fe|apply Fb|apply Ff)|exact HB.out))):w.heap.size≤gb182));have n3_:=Fa ((by rw [hg];exact(Fp (by repeat(first|(with_reducible first|exact HB.out|apply Fe|apply Fb|apply Ff)|exact HB.out))):w.heap.size≤gb182));clear HB;have HB:=n0_;have BK182:=n1_;have GW182:=n2_;have GE182:=n3_;clear n0_ n1_ n2_ n3_;clear hb hbox hg)|((with_reducible refine gate_dst (N:=4) rfl ?_);refine box_event ?hg (N:=4) ?hd (cs:=#[.int .i64 a1_0,.int .i64 a1_1,.slice A1_2 l1_2.length c1_2]) (t:=27) ?hr ?_;(case hd=>rfl);(case hg=>rfl);(case hr=>first|(go_simp;done)|(go_simp;rfl));intro gb183 hg w6 hbox hb;have n0_:=Fa (Fm (g:=gb182) (o:=.cells #[.int .i64 a0_0,.int .i64 a0_1,.slice A0_2 l0_2.length c0_2] 27 (0,0)) (by(with_reducible repeat(first|refine Fi ?_ _|refine Fc ?_|refine Fh ?_ _));exact BK182.out) hb);have n1_:=Fa (Fq (by repeat(first|(with_reducible first|exact HB.out|apply Fe|apply Fb|apply Ff|refine Fd ?_ GE182.out)|exact HB.out)) hb);have n2_:=Fa (hbox);have n3_:=Fa ((by rw [hg];exact(Fp (by repeat(first|(with_reducible first|exact HB.out|apply Fe|apply Fb|apply Ff|refine Fd ?_ GE182.out)|exact HB.out))):w.heap.size≤gb183));have n4_:=Fa ((by rw [hg];exact(Fp (by repeat(first|(with_reducible first|exact HB.out|apply Fe|apply Fb|apply Ff|refine Fd ?_ GE182.out)|exact HB.out))):w.heap.size≤gb183));have n5_:=Fa ((by rw [hg];exact Nat.ne_of_lt (blk_lt (g:=gb182) (o:=.cells #[.int .i64 a0_0,.int .i64 a0_1,.slice A0_2 l0_2.length c0_2] 27 (0,0)) (by(with_reducible repeat(first|refine Fi ?_ _|refine Fc ?_|refine Fh ?_ _));exact BK182.out)):gb182≠gb183));have n6_:=Fa ((by rw [hg];exact Nat.ne_of_gt (blk_lt (g:=gb182) (o:=.cells #[.int .i64 a0_0,.int .i64 a0_1,.slice A0_2 l0_2.length c0_2] 27 (0,0)) (by(with_reducible repeat(first|refine Fi ?_ _|refine Fc ?_|refine Fh ?_ _));exact BK182.out)):gb183≠gb182));clear BK182;clear HB;have BK182:=n0_;have HB:=n1_;have BK183:=n2_;have GW183:=n3_;have GE183:=n4_;have NB182_183:=n5_;have NB183_182:=n6_;clear n0_ n1_ n2_ n3_ n4_ n5_ n6_;clear hb hbox hg;have hnb7:=NB183_182.out;have hnc7:=NB182_183.out;have hcz8_0:w6.cell? ⟨gb183,0,none⟩=some (.int .i64 a1_0):=(Fn BK183.out 0).trans rfl;have hcz8_1:w6.cell? ⟨gb183,1,none⟩=some (.int .i64 a1_1):=(Fn BK183.out 1).trans rfl;have hcz8_2:w6.cell? ⟨gb183,2,none⟩=some (.slice A1_2 l1_2.length c1_2):=(Fn BK183.out 2).trans rfl;have hfz8_0:=Fj BK183.out 0;have hfz8_1:=Fj BK183.out 1;have hfz8_2:=Fj BK183.out 2)|(go_at_call 78;(with_reducible refine(impl_Picture_at.calls k a1_0 a1_1 _ _ l1_2 a2 0 0 t184 _ ?side1 ?side2 A4.out).mono ?_);(case side1=>repeat(first|exact(Fv HR1_2.out HB.out)|(with_reducible refine Fs ?_ _)|(with_reducible refine Ft ?_ _)|(with_reducible refine Fo ?_)));(case side2=>exact HC1_2.out);rintro e w9 ⟨v185,rfl,ho0,hb⟩;have n0_:=Fa (Kd.R_lower ho0 (Fp (by repeat(first|(with_reducible first|exact HB.out|apply Fe|apply Fb|apply Ff|refine Fd ?_ GE182.out|refine Fd ?_ GE183.out)|exact HB.out))));have n1_:=Fa (Fm (g:=gb182) (o:=.cells #[.int .i64 a0_0,.int .i64 a0_1,.slice A0_2 l0_2.length c0_2] 27 (0,0)) (by(with_reducible repeat(first|refine Fi ?_ _|refine Fc ?_|refine Fh ?_ _));exact BK182.out) hb);have n2_:=Fa (Fm (g:=gb183) (o:=.cells #[.int .i64 a1_0,.int .i64 a1_1,.slice A1_2 l1_2.length c1_2] 27 (0,0)) (by(with_reducible repeat(first|refine Fi ?_ _|refine Fc ?_|refine Fh ?_ _));exact BK183.out) hb);have n3_:=Fa (Fq (by repeat(first|(with_reducible first|exact HB.out|apply Fe|apply Fb|apply Ff|refine Fd ?_ GE182.out|refine Fd ?_ GE183.out)|exact HB.out)) hb);clear BK182;clear BK183;clear HB;have HO186:=n0_;have BK182:=n1_;have BK183:=n2_;have HB:=n3_;clear n0_ n1_ n2_ n3_;(try clear hb);(try clear hb2);(try clear hk);(try clear hi);(try clear ho0))|((with_reducible refine gate_dst (N:=16) rfl ?_);refine Kd.R_lit k89 _ 89 ?hg (N:=16) ?hd (xs:=([]:List (S89))) (inner:=[]) (ok:=fun _=>True) (okp:=fun _=>True) ?hr ?hp (fun _ hk=>hk) trivial (Below.refl _ _) (Nat.le_refl _) (by simp) ?_;(case hd=>rfl);(case hg=>rfl);(case hr=>first|(go_simp;done)|(go_simp;rfl));(case hp=>exact(Reps.none _ _));intro v188 w10 ho11 hb hg_ hnew_;clear hg_ hnew_;(first|rw [← Ny187.out] at ho11|(simp only [Int.reduceToNat] at ho11;rw [← Ny187.out] at ho11));have n0_:=Fa (Fr (by(with_reducible repeat(first|apply Fl|apply Fk|apply Fg));exact HO186.out) hb);have n1_:=Fa (Kd.R_lower ho11 (Fp (by repeat(first|(with_reducible first|exact HB.out|apply Fe|apply Fb|apply Ff|refine Fd ?_ GE182.out|refine Fd ?_ GE183.out)|exact HB.out))));have n2_:=Fa (Fm (g:=gb182) (o:=.cells #[.int .i64 a0_0,.int .i64 a0_1,.slice A0_2 l0_2.length c0_2] 27 (0,0)) (by(with_reducible repeat(first|refine Fi ?_ _|refine Fc ?_|refine Fh ?_ _));exact BK182.out) hb);have n3_:=Fa (Fm (g:=gb183) (o:=.cells #[.int .i64 a1_0,.int .i64 a1_1,.slice A1_2 l1_2.length c1_2] 27 (0,0)) (by(with_reducible repeat(first|refine Fi ?_ _|refine Fc ?_|refine Fh ?_ _));exact BK183.out) hb);have n4_:=Fa (Fq (by repeat(first|(with_reducible first|exact HB.out|apply Fe|apply Fb|apply Ff|refine Fd ?_ GE182.out|refine Fd ?_ GE183.out)|exact HB.out)) hb);clear HO186;clear BK182;clear BK183;clear HB;have HO186:=n0_;have HO189:=n1_;have BK182:=n2_;have BK183:=n3_;have HB:=n4_;clear n0_ n1_ n2_ n3_ n4_;clear hb ho11)))
 go_loopg [9,10] k (fun kq v9 v10 w'=>∃ (x9_1:List (S89)) (x10_1:Int),v10=.int .i64 x10_1∧Aside0 (impl_motion.l0 kq a2 t184 x9_1 x10_1 a0_0 a0_1 l0_2=some (r1,r2))∧Aside0 (kq≤k)∧Aside0 (Kd.R (Kd.int .i64) 2 w' w.heap.size (fun _=>True) v185 t184)∧Aside0 (Kd.R k89 89 w' w.heap.size (fun _=>True) v9 x9_1)∧Aside0 (w'.heap[gb182]? = some (.cells #[.int .i64 a0_0,.int .i64 a0_1,(.slice A0_2 l0_2.length c0_2)] 27 (0,0)))∧Aside0 (w'.heap[gb183]? = some (.cells #[.int .i64 a1_0,.int .i64 a1_1,(.slice A1_2 l1_2.length c1_2)] 27 (0,0)))∧Aside0 (Below w.heap.size w w'))
 case atStart=>exact⟨(y187),((-2)),(by first|rfl|(simp;done)|(simp [*];done)),H',⟨Nat.le_refl _⟩,⟨by(with_reducible repeat(first|apply Fl|apply Fk|apply Fg));exact HO186.out⟩,⟨by(with_reducible repeat(first|apply Fl|apply Fk|apply Fg));exact HO189.out⟩,⟨by(with_reducible repeat(first|refine Fi ?_ _|refine Fc ?_|refine Fh ?_ _));exact BK182.out⟩,⟨by(with_reducible repeat(first|refine Fi ?_ _|refine Fc ?_|refine Fh ?_ _));exact BK183.out⟩,⟨by repeat(first|(with_reducible first|exact HB.out|apply Fe|apply Fb|apply Ff|refine Fd ?_ GE182.out|refine Fd ?_ GE183.out)|exact HB.out)⟩⟩
 case round=>
  clear H'
  try clear c1
  try clear p2
  try clear c7
  try clear hcz8_0
  try clear hcz8_1
  try clear hcz8_2
  try clear hfz8_0
  try clear hfz8_1
  try clear hfz8_2
  obtain⟨x9_1,x10_1,rfl,HA,HK1,HO_8,HO_9,BK182,BK183,HB⟩:=hrel
  cases gk with
  | zero => exact absurd HA.out (by simp [impl_motion.l0])
  | succ k1 =>
   have H:=HA.out
   clear HA
   simp only [impl_motion.l0] at H
   by_cases c12:x10_1≤2
   ·rw [if_pos c12] at H
    have c12b0:decide (x10_1≤2)=true:=decide_eq_true c12
    clear c12
    have H':=Fa H
    clear H
    go_wp2
    repeat(go_quiet (fail);try go_wp2)
    go_loopg [9,11] k1 (fun kq v9 v11 w'=>∃ (x9_2:List (S89)) (x11_2:Int),v11=.int .i64 x11_2∧Aside0 (impl_motion.l1 kq a2 t184 x9_2 x10_1 x11_2 a0_0 a0_1 l0_2=some (r1,r2))∧Aside0 (kq≤k1)∧Aside0 (Kd.R (Kd.int .i64) 2 w' w.heap.size (fun _=>True) v185 t184)∧Aside0 (Kd.R k89 89 w' w.heap.size (fun _=>True) v9 x9_2)∧Aside0 (w'.heap[gb182]? = some (.cells #[.int .i64 a0_0,.int .i64 a0_1,(.slice A0_2 l0_2.length c0_2)] 27 (0,0)))∧Aside0 (w'.heap[gb183]? = some (.cells #[.int .i64 a1_0,.int .i64 a1_1,(.slice A1_2 l1_2.length c1_2)] 27 (0,0)))∧Aside0 (Below w.heap.size w w'))
    case atStart=>exact⟨(x9_1),((-2)),(by first|rfl|(simp;done)|(simp [*];done)),H',⟨Nat.le_refl _⟩,⟨by(with_reducible repeat(first|apply Fl|apply Fk|apply Fg));exact HO_8.out⟩,⟨by(with_reducible repeat(first|apply Fl|apply Fk|apply Fg));exact HO_9.out⟩,⟨by(with_reducible repeat(first|refine Fi ?_ _|refine Fc ?_|refine Fh ?_ _));exact BK182.out⟩,⟨by(with_reducible repeat(first|refine Fi ?_ _|refine Fc ?_|refine Fh ?_ _));exact BK183.out⟩,⟨by repeat(first|(with_reducible first|exact HB.out|apply Fe|apply Fb|apply Ff|refine Fd ?_ GE182.out|refine Fd ?_ GE183.out)|exact HB.out)⟩⟩
    case round=>
     clear H'
     try clear c1
     try clear p2
     try clear c7
     try clear c12
     try clear c12b0
     try clear hcz8_0
     try clear hcz8_1
     try clear hcz8_2
     try clear hfz8_0
     try clear hfz8_1
     try clear hfz8_2
     try clear p2
     obtain⟨x9_2,x11_2,rfl,HA,HK2,HO_8,HO_9,BK182,BK183,HB⟩:=hrel
     cases gk with
     | zero => exact absurd HA.out (by simp [impl_motion.l1])
     | succ k2 =>
      have H:=HA.out
      clear HA
      simp only [impl_motion.l1] at H
      by_cases c13:x11_2≤2
      ·rw [if_pos c13] at H
       have c13b0:decide (x11_2≤2)=true:=decide_eq_true c13
       clear c13
       replace H:=Option.bind_eq_some_iff.mp H
       obtain⟨t194,A140,H⟩:=H
       replace H:((impl_offBy.f k2 t184 t194).bind fun t197=>(if x9_2.length < 5864062014805 then (impl_motion.l1 k2 a2 t184 (x9_2 ++ [(⟨t197,x11_2,x10_1⟩:S89)]) x10_1 (wrap64 (x11_2+1)) a0_0 a0_1 l0_2) else (none)))=some (r1,r2):=H
       have A14:=Fa A140
       clear A140
       replace H:=Option.bind_eq_some_iff.mp H
       obtain⟨t197,A150,H⟩:=H
       replace H:(if x9_2.length < 5864062014805 then (impl_motion.l1 k2 a2 t184 (x9_2 ++ [(⟨t197,x11_2,x10_1⟩:S89)]) x10_1 (wrap64 (x11_2+1)) a0_0 a0_1 l0_2) else (none))=some (r1,r2):=H
       have A15:=Fa A150
       clear A150
       by_cases c16:x9_2.length < 5864062014805
       ·rw [if_pos c16] at H
        have LMc16:=Fa c16
        clear c16
        obtain⟨y198,hy198⟩:∃ y_:List (S89),y_=(x9_2 ++ [(⟨t197,x11_2,x10_1⟩:S89)]):=⟨_,rfl⟩
        replace H:(impl_motion.l1 k2 a2 t184 y198 x10_1 (wrap64 (x11_2+1)) a0_0 a0_1 l0_2)=some (r1,r2):=by first|(rw [hy198];with_reducible exact H)|(have H2_:=(Option.bind_some _ _).symm.trans H;rw [hy198];with_reducible exact H2_)|(have H2_:=(Option.bind_some _ _).symm.trans H;with_reducible exact H2_)|with_reducible exact H|(rw [hy198];exact H)|exact H
        have Ny198:=Fa hy198
        clear hy198
        have H':=Fa H
        clear H
        have hnb17:=NB182_183.out
        have hnc17:=NB183_182.out
        have hcz18_0:wr.cell? ⟨gb182,0,none⟩=some (.int .i64 a0_0):=(Fn BK182.out 0).trans rfl
        have hcz18_1:wr.cell? ⟨gb182,1,none⟩=some (.int .i64 a0_1):=(Fn BK182.out 1).trans rfl
        have hcz18_2:wr.cell? ⟨gb182,2,none⟩=some (.slice A0_2 l0_2.length c0_2):=(Fn BK182.out 2).trans rfl
        have hfz18_0:=Fj BK182.out 0
        have hfz18_1:=Fj BK182.out 1
        have hfz18_2:=Fj BK182.out 2
        go_wp2_with (first|(go_at_call 78;(with_reducible refine(impl_Picture_at.calls k2 a0_0 a0_1 _ _ l0_2 a2 x11_2 x10_1 t194 _ ?side1 ?side2 A14.out).mono ?_);(case side1=>repeat(first|exact(Fv HR0_2.out HB.out)|(with_reducible refine Fs ?_ _)|(with_reducible refine Ft ?_ _)|(with_reducible refine Fo ?_)));(case side2=>exact HC0_2.out);rintro e w19 ⟨v195,rfl,ho0,hb⟩;have n0_:=Fa (Kd.R_elder' (by(with_reducible repeat(first|apply Fl|apply Fk|apply Fg));exact HO_8.out) (Kd.R_base ho0) hb);have n1_:=Fa (Fr (by(with_reducible repeat(first|apply Fl|apply Fk|apply Fg));exact HO_9.out) hb);have n2_:=Fa (Kd.R_lower (Kd.R_new' ho0 (Kd.R_lt (by(with_reducible repeat(first|apply Fl|apply Fk|apply Fg));exact HO_8.out))) (Fp (by repeat(first|(with_reducible first|exact HB.out|apply Fe|apply Fb|apply Ff|refine Fd ?_ GE182.out|refine Fd ?_ GE183.out)|exact HB.out))));have n3_:=Fa (Fm (g:=gb182) (o:=.cells #[.int .i64 a0_0,.int .i64 a0_1,.slice A0_2 l0_2.length c0_2] 27 (0,0)) (by(with_reducible repeat(first|refine Fi ?_ _|refine Fc ?_|refine Fh ?_ _));exact BK182.out) hb);have n4_:=Fa (Fm (g:=gb183) (o:=.cells #[.int .i64 a1_0,.int .i64 a1_1,.slice A1_2 l1_2.length c1_2] 27 (0,0)) (by(with_reducible repeat(first|refine Fi ?_ _|refine Fc ?_|refine Fh ?_ _));exact BK183.out) hb);have n5_:=Fa (Fq (by repeat(first|(with_reducible first|exact HB.out|apply Fe|apply Fb|apply Ff|refine Fd ?_ GE182.out|refine Fd ?_ GE183.out)|exact HB.out)) hb);clear HO_8;clear HO_9;clear BK182;clear BK183;clear HB;have HO_8:=n0_;have HO_9:=n1_;have HO196:=n2_;have BK182:=n3_;have BK183:=n4_;have HB:=n5_;clear n0_ n1_ n2_ n3_ n4_ n5_;(try clear hb);(try clear hb2);(try clear hk);(try clear hi);(try clear ho0);obtain⟨Ao20,co20,eo20⟩:=Kd.R_slice HO_8.out;subst eo20;obtain⟨Ao21,co21,eo21⟩:=Kd.R_slice HO196.out;subst eo21)|(go_at_call 87;(with_reducible refine(impl_offBy.calls k2 _ _ t184 _ _ t194 t197 _ ?side1 ?side2 ?side3 ?side4 A15.out).mono ?_);(case side1=>repeat(first|exact(Fu HO_8.out).2.2|(with_reducible refine Fs ?_ _)|(with_reducible refine Ft ?_ _)|(with_reducible refine Fo ?_)));(case side2=>exact(Fu HO_8.out).2.1);(case side3=>repeat(first|exact(Fu HO196.out).2.2|(with_reducible refine Fs ?_ _)|(with_reducible refine Ft ?_ _)|(with_reducible refine Fo ?_)));(case side4=>exact(Fu HO196.out).2.1);rintro e w22 ⟨rfl,hb⟩;have n0_:=Fa (Fr (by(with_reducible repeat(first|apply Fl|apply Fk|apply Fg));exact HO_8.out) hb);have n1_:=Fa (Fr (by(with_reducible repeat(first|apply Fl|apply Fk|apply Fg));exact HO_9.out) hb);have n2_:=Fa (Fr (by(with_reducible repeat(first|apply Fl|apply Fk|apply Fg));exact HO196.out) hb);have n3_:=Fa (Fm (g:=gb182) (o:=.cells #[.int .i64 a0_0,.int .i64 a0_1,.slice A0_2 l0_2.length c0_2] 27 (0,0)) (by(with_reducible repeat(first|refine Fi ?_ _|refine Fc ?_|refine Fh ?_ _));exact BK182.out) hb);have n4_:=Fa (Fm (g:=gb183) (o:=.cells #[.int .i64 a1_0,.int .i64 a1_1,.slice A1_2 l1_2.length c1_2] 27 (0,0)) (by(with_reducible repeat(first|refine Fi ?_ _|refine Fc ?_|refine Fh ?_ _));exact BK183.out) hb);have n5_:=Fa (Fq (by repeat(first|(with_reducible first|exact HB.out|apply Fe|apply Fb|apply Ff|refine Fd ?_ GE182.out|refine Fd ?_ GE183.out)|exact HB.out)) hb);clear HO_8;clear HO_9;clear HO196;clear BK182;clear BK183;clear HB;have HO_8:=n0_;have HO_9:=n1_;have HO196:=n2_;have BK182:=n3_;have BK183:=n4_;have HB:=n5_;clear n0_ n1_ n2_ n3_ n4_ n5_;(try clear hb);(try clear hb2);(try clear hk);(try clear hi))|((with_reducible refine gate_builtin (b:=.append) (xs:=#[.tmp 25,.tmp 36]) rfl ?_);at_builtin;refine Kd.R_append k89 (w0:=w) w.heap.size rfl (.tmp 25) (.tmp 36) 86 89 (.agg #[(.int .i64 0),(.int .i64 0),(.int .i64 0)]) 24 rfl Try.underlying86 info89 rfl (by decide) (by omega) u9 x9_2 (⟨t197,x11_2,x10_1⟩:S89) [.int .i64 t197,.int .i64 x11_2,.int .i64 x10_1] (fun _=>True) (fun _=>False) rfl rfl ?aP (fun _ hk=>hk.elim) ?aF ?aO ?aB ?aS ?aL ?_;(case aP=>exact k89_mkM _ _ _ (⟨t197,x11_2,x10_1⟩:S89));(case aB=>exact(by repeat(first|(with_reducible first|exact HB.out|apply Fe|apply Fb|apply Ff|refine Fd ?_ GE182.out|refine Fd ?_ GE183.out)|exact HB.out)));(case aF=>exact(fun _ _=>trivial));(case aO=>exact(by(with_reducible repeat(first|apply Fl|apply Fk|apply Fg));exact HO_9.out));(case aS=>exact(Fp (by repeat(first|(with_reducible first|exact HB.out|apply Fe|apply Fb|apply Ff|refine Fd ?_ GE182.out|refine Fd ?_ GE183.out)|exact HB.out))));(case aL=>have:=LMc16.out;omega);intro v199 w23 ho hb hg hat;rw [← Ny198.out] at ho;have n0_:=Fa (Kd.R_over' (by(with_reducible repeat(first|apply Fl|apply Fk|apply Fg));exact HO_8.out) (Kd.R_typed (by(with_reducible repeat(first|apply Fl|apply Fk|apply Fg));exact HO_9.out)) (by decide) hg);have n1_:=Fa (blk_grown (g:=gb182) (o:=.cells #[.int .i64 a0_0,.int .i64 a0_1,.slice A0_2 l0_2.length c0_2] 27 (0,0)) (by(with_reducible repeat(first|refine Fi ?_ _|refine Fc ?_|refine Fh ?_ _));exact BK182.out) hg (Kd.R_ne HO_9.out BK182.out (by decide)));have n2_:=Fa (blk_grown (g:=gb183) (o:=.cells #[.int .i64 a1_0,.int .i64 a1_1,.slice A1_2 l1_2.length c1_2] 27 (0,0)) (by(with_reducible repeat(first|refine Fi ?_ _|refine Fc ?_|refine Fh ?_ _));exact BK183.out) hg (Kd.R_ne HO_9.out BK183.out (by decide)));have n3_:=Fa (Kd.R_over' (by(with_reducible repeat(first|apply Fl|apply Fk|apply Fg));exact HO196.out) (Kd.R_typed (by(with_reducible repeat(first|apply Fl|apply Fk|apply Fg));exact HO_9.out)) (by decide) hg);have n4_:=Fa (hb);have n5_:=Fa (ho);clear HO_8;clear BK182;clear BK183;clear HO196;clear HB;clear HO_9;have HO_8:=n0_;have BK182:=n1_;have BK183:=n2_;have HO196:=n3_;have HB:=n4_;have HO200:=n5_;clear n0_ n1_ n2_ n3_ n4_ n5_;clear ho hb hg hat))
        repeat(go_quiet (first|(go_at_call 78;(with_reducible refine(impl_Picture_at.calls k2 a0_0 a0_1 _ _ l0_2 a2 x11_2 x10_1 t194 _ ?side1 ?side2 A14.out).mono ?_);(case side1=>repeat(first|exact(Fv HR0_2.out HB.out)|(with_reducible refine Fs ?_ _)|(with_reducible refine Ft ?_ _)|(with_reducible refine Fo ?_)));(case side2=>exact HC0_2.out);rintro e w19 ⟨v195,rfl,ho0,hb⟩;have n0_:=Fa (Kd.R_elder' (by(with_reducible repeat(first|apply Fl|apply Fk|apply Fg));exact HO_8.out) (Kd.R_base ho0) hb);have n1_:=Fa (Fr (by(with_reducible repeat(first|apply Fl|apply Fk|apply Fg));exact HO_9.out) hb);have n2_:=Fa (Kd.R_lower (Kd.R_new' ho0 (Kd.R_lt (by(with_reducible repeat(first|apply Fl|apply Fk|apply Fg));exact HO_8.out))) (Fp (by repeat(first|(with_reducible first|exact HB.out|apply Fe|apply Fb|apply Ff|refine Fd ?_ GE182.out|refine Fd ?_ GE183.out)|exact HB.out))));have n3_:=Fa (Fm (g:=gb182) (o:=.cells #[.int .i64 a0_0,.int .i64 a0_1,.slice A0_2 l0_2.length c0_2] 27 (0,0)) (by(with_reducible repeat(first|refine Fi ?_ _|refine Fc ?_|refine Fh ?_ _));exact BK182.out) hb);have n4_:=Fa (Fm (g:=gb183) (o:=.cells #[.int .i64 a1_0,.int .i64 a1_1,.slice A1_2 l1_2.length c1_2] 27 (0,0)) (by(with_reducible repeat(first|refine Fi ?_ _|refine Fc ?_|refine Fh ?_ _));exact BK183.out) hb);have n5_:=Fa (Fq (by repeat(first|(with_reducible first|exact HB.out|apply Fe|apply Fb|apply Ff|refine Fd ?_ GE182.out|refine Fd ?_ GE183.out)|exact HB.out)) hb);clear HO_8;clear HO_9;clear BK182;clear BK183;clear HB;have HO_8:=n0_;have HO_9:=n1_;have HO196:=n2_;have BK182:=n3_;have BK183:=n4_;have HB:=n5_;clear n0_ n1_ n2_ n3_ n4_ n5_;(try clear hb);(try clear hb2);(try clear hk);(try clear hi);(try clear ho0);obtain⟨Ao20,co20,eo20⟩:=Kd.R_slice HO_8.out;subst eo20;obtain⟨Ao21,co21,eo21⟩:=Kd.R_slice HO196.out;subst eo21)|(go_at_call 87;(with_reducible refine(impl_offBy.calls k2 _ _ t184 _ _ t194 t197 _ ?side1 ?side2 ?side3 ?side4 A15.out).mono ?_);(case side1=>repeat(first|exact(Fu HO_8.out).2.2|(with_reducible refine Fs ?_ _)|(with_reducible refine Ft ?_ _)|(with_reducible refine Fo ?_)));(case side2=>exact(Fu HO_8.out).2.1);(case side3=>repeat(first|exact(Fu HO196.out).2.2|(with_reducible refine Fs ?_ _)|(with_reducible refine Ft ?_ _)|(with_reducible refine Fo ?_)));(case side4=>exact(Fu HO196.out).2.1);rintro e w22 ⟨rfl,hb⟩;have n0_:=Fa (Fr (by(with_reducible repeat(first|apply Fl|apply Fk|apply Fg));exact HO_8.out) hb);have n1_:=Fa (Fr (by(with_reducible repeat(first|apply Fl|apply Fk|apply Fg));exact HO_9.out) hb);have n2_:=Fa (Fr (by(with_reducible repeat(first|apply Fl|apply Fk|apply Fg));exact HO196.out) hb);have n3_:=Fa (Fm (g:=gb182) (o:=.cells #[.int .i64 a0_0,.int .i64 a0_1,.slice A0_2 l0_2.length c0_2] 27 (0,0)) (by(with_reducible repeat(first|refine Fi ?_ _|refine Fc ?_|refine Fh ?_ _));exact BK182.out) hb);have n4_:=Fa (Fm (g:=gb183) (o:=.cells #[.int .i64 a1_0,.int .i64 a1_1,.slice A1_2 l1_2.length c1_2] 27 (0,0)) (by(with_reducible repeat(first|refine Fi ?_ _|refine Fc ?_|refine Fh ?_ _));exact BK183.out) hb);have n5_:=Fa (Fq (by repeat(first|(with_reducible first|exact HB.out|apply Fe|apply Fb|apply Ff|refine Fd ?_ GE182.out|refine Fd ?_ GE183.out)|exact HB.out)) hb);clear HO_8;clear HO_9;clear HO196;clear BK182;clear BK183;clear HB;have HO_8:=n0_;have HO_9:=n1_;have HO196:=n2_;have BK182:=n3_;have BK183:=n4_;have HB:=n5_;clear n0_ n1_ n2_ n3_ n4_ n5_;(try clear hb);(try clear hb2);(try clear hk);(try clear hi))|((with_reducible refine gate_builtin (b:=.append) (xs:=#[.tmp 25,.tmp 36]) rfl ?_);at_builtin;refine Kd.R_append k89 (w0:=w) w.heap.size rfl (.tmp 25) (.tmp 36) 86 89 (.agg #[(.int .i64 0),(.int .i64 0),(.int .i64 0)]) 24 rfl Try.underlying86 info89 rfl (by decide) (by omega) u9 x9_2 (⟨t197,x11_2,x10_1⟩:S89) [.int .i64 t197,.int .i64 x11_2,.int .i64 x10_1] (fun _=>True) (fun _=>False) rfl rfl ?aP (fun _ hk=>hk.elim) ?aF ?aO ?aB ?aS ?aL ?_;(case aP=>exact k89_mkM _ _ _ (⟨t197,x11_2,x10_1⟩:S89));(case aB=>exact(by repeat(first|(with_reducible first|exact HB.out|apply Fe|apply Fb|apply Ff|refine Fd ?_ GE182.out|refine Fd ?_ GE183.out)|exact HB.out)));(case aF=>exact(fun _ _=>trivial));(case aO=>exact(by(with_reducible repeat(first|apply Fl|apply Fk|apply Fg));exact HO_9.out));(case aS=>exact(Fp (by repeat(first|(with_reducible first|exact HB.out|apply Fe|apply Fb|apply Ff|refine Fd ?_ GE182.out|refine Fd ?_ GE183.out)|exact HB.out))));(case aL=>have:=LMc16.out;omega);intro v199 w23 ho hb hg hat;rw [← Ny198.out] at ho;have n0_:=Fa (Kd.R_over' (by(with_reducible repeat(first|apply Fl|apply Fk|apply Fg));exact HO_8.out) (Kd.R_typed (by(with_reducible repeat(first|apply Fl|apply Fk|apply Fg));exact HO_9.out)) (by decide) hg);have n1_:=Fa (blk_grown (g:=gb182) (o:=.cells #[.int .i64 a0_0,.int .i64 a0_1,.slice A0_2 l0_2.length c0_2] 27 (0,0)) (by(with_reducible repeat(first|refine Fi ?_ _|refine Fc ?_|refine Fh ?_ _));exact BK182.out) hg (Kd.R_ne HO_9.out BK182.out (by decide)));have n2_:=Fa (blk_grown (g:=gb183) (o:=.cells #[.int .i64 a1_0,.int .i64 a1_1,.slice A1_2 l1_2.length c1_2] 27 (0,0)) (by(with_reducible repeat(first|refine Fi ?_ _|refine Fc ?_|refine Fh ?_ _));exact BK183.out) hg (Kd.R_ne HO_9.out BK183.out (by decide)));have n3_:=Fa (Kd.R_over' (by(with_reducible repeat(first|apply Fl|apply Fk|apply Fg));exact HO196.out) (Kd.R_typed (by(with_reducible repeat(first|apply Fl|apply Fk|apply Fg));exact HO_9.out)) (by decide) hg);have n4_:=Fa (hb);have n5_:=Fa (ho);clear HO_8;clear BK182;clear BK183;clear HO196;clear HB;clear HO_9;have HO_8:=n0_;have BK182:=n1_;have BK183:=n2_;have HO196:=n3_;have HB:=n4_;have HO200:=n5_;clear n0_ n1_ n2_ n3_ n4_ n5_;clear ho hb hg hat));try go_wp2_with (first|(go_at_call 78;(with_reducible refine(impl_Picture_at.calls k2 a0_0 a0_1 _ _ l0_2 a2 x11_2 x10_1 t194 _ ?side1 ?side2 A14.out).mono ?_);(case side1=>repeat(first|exact(Fv HR0_2.out HB.out)|(with_reducible refine Fs ?_ _)|(with_reducible refine Ft ?_ _)|(with_reducible refine Fo ?_)));(case side2=>exact HC0_2.out);rintro e w19 ⟨v195,rfl,ho0,hb⟩;have n0_:=Fa (Kd.R_elder' (by(with_reducible repeat(first|apply Fl|apply Fk|apply Fg));exact HO_8.out) (Kd.R_base ho0) hb);have n1_:=Fa (Fr (by(with_reducible repeat(first|apply Fl|apply Fk|apply Fg));exact HO_9.out) hb);have n2_:=Fa (Kd.R_lower (Kd.R_new' ho0 (Kd.R_lt (by(with_reducible repeat(first|apply Fl|apply Fk|apply Fg));exact HO_8.out))) (Fp (by repeat(first|(with_reducible first|exact HB.out|apply Fe|apply Fb|apply Ff|refine Fd ?_ GE182.out|refine Fd ?_ GE183.out)|exact HB.out))));have n3_:=Fa (Fm (g:=gb182) (o:=.cells #[.int .i64 a0_0,.int .i64 a0_1,.slice A0_2 l0_2.length c0_2] 27 (0,0)) (by(with_reducible repeat(first|refine Fi ?_ _|refine Fc ?_|refine Fh ?_ _));exact BK182.out) hb);have n4_:=Fa (Fm (g:=gb183) (o:=.cells #[.int .i64 a1_0,.int .i64 a1_1,.slice A1_2 l1_2.length c1_2] 27 (0,0)) (by(with_reducible repeat(first|refine Fi ?_ _|refine Fc ?_|refine Fh ?_ _));exact BK183.out) hb);have n5_:=Fa (Fq (by repeat(first|(with_reducible first|exact HB.out|apply Fe|apply Fb|apply Ff|refine Fd ?_ GE182.out|refine Fd ?_ GE183.out)|exact HB.out)) hb);clear HO_8;clear HO_9;clear BK182;clear BK183;clear HB;have HO_8:=n0_;have HO_9:=n1_;have HO196:=n2_;have BK182:=n3_;have BK183:=n4_;have HB:=n5_;clear n0_ n1_ n2_ n3_ n4_ n5_;(try clear hb);(try clear hb2);(try clear hk);(try clear hi);(try clear ho0);obtain⟨Ao20,co20,eo20⟩:=Kd.R_slice HO_8.out;subst eo20;obtain⟨Ao21,co21,eo21⟩:=Kd.R_slice HO196.out;subst eo21)|(go_at_call 87;(with_reducible refine(impl_offBy.calls k2 _ _ t184 _ _ t194 t197 _ ?side1 ?side2 ?side3 ?side4 A15.out).mono ?_);(case side1=>repeat(first|exact(Fu HO_8.out).2.2|(with_reducible refine Fs ?_ _)|(with_reducible refine Ft ?_ _)|(with_reducible refine Fo ?_)));(case side2=>exact(Fu HO_8.out).2.1);(case side3=>repeat(first|exact(Fu HO196.out).2.2|(with_reducible refine Fs ?_ _)|(with_reducible refine Ft ?_ _)|(with_reducible refine Fo ?_)));(case side4=>exact(Fu HO196.out).2.1);rintro e w22 ⟨rfl,hb⟩;have n0_:=Fa (Fr (by(with_reducible repeat(first|apply Fl|apply Fk|apply Fg));exact HO_8.out) hb);have n1_:=Fa (Fr (by(with_reducible repeat(first|apply Fl|apply Fk|apply Fg));exact HO_9.out) hb);have n2_:=Fa (Fr (by(with_reducible repeat(first|apply Fl|apply Fk|apply Fg));exact HO196.out) hb);have n3_:=Fa (Fm (g:=gb182) (o:=.cells #[.int .i64 a0_0,.int .i64 a0_1,.slice A0_2 l0_2.length c0_2] 27 (0,0)) (by(with_reducible repeat(first|refine Fi ?_ _|refine Fc ?_|refine Fh ?_ _));exact BK182.out) hb);have n4_:=Fa (Fm (g:=gb183) (o:=.cells #[.int .i64 a1_0,.int .i64 a1_1,.slice A1_2 l1_2.length c1_2] 27 (0,0)) (by(with_reducible repeat(first|refine Fi ?_ _|refine Fc ?_|refine Fh ?_ _));exact BK183.out) hb);have n5_:=Fa (Fq (by repeat(first|(with_reducible first|exact HB.out|apply Fe|apply Fb|apply Ff|refine Fd ?_ GE182.out|refine Fd ?_ GE183.out)|exact HB.out)) hb);clear HO_8;clear HO_9;clear HO196;clear BK182;clear BK183;clear HB;have HO_8:=n0_;have HO_9:=n1_;have HO196:=n2_;have BK182:=n3_;have BK183:=n4_;have HB:=n5_;clear n0_ n1_ n2_ n3_ n4_ n5_;(try clear hb);(try clear hb2);(try clear hk);(try clear hi))|((with_reducible refine gate_builtin (b:=.append) (xs:=#[.tmp 25,.tmp 36]) rfl ?_);at_builtin;refine Kd.R_append k89 (w0:=w) w.heap.size rfl (.tmp 25) (.tmp 36) 86 89 (.agg #[(.int .i64 0),(.int .i64 0),(.int .i64 0)]) 24 rfl Try.underlying86 info89 rfl (by decide) (by omega) u9 x9_2 (⟨t197,x11_2,x10_1⟩:S89) [.int .i64 t197,.int .i64 x11_2,.int .i64 x10_1] (fun _=>True) (fun _=>False) rfl rfl ?aP (fun _ hk=>hk.elim) ?aF ?aO ?aB ?aS ?aL ?_;(case aP=>exact k89_mkM _ _ _ (⟨t197,x11_2,x10_1⟩:S89));(case aB=>exact(by repeat(first|(with_reducible first|exact HB.out|apply Fe|apply Fb|apply Ff|refine Fd ?_ GE182.out|refine Fd ?_ GE183.out)|exact HB.out)));(case aF=>exact(fun _ _=>trivial));(case aO=>exact(by(with_reducible repeat(first|apply Fl|apply Fk|apply Fg));exact HO_9.out));(case aS=>exact(Fp (by repeat(first|(with_reducible first|exact HB.out|apply Fe|apply Fb|apply Ff|refine Fd ?_ GE182.out|refine Fd ?_ GE183.out)|exact HB.out))));(case aL=>have:=LMc16.out;omega);intro v199 w23 ho hb hg hat;rw [← Ny198.out] at ho;have n0_:=Fa (Kd.R_over' (by(with_reducible repeat(first|apply Fl|apply Fk|apply Fg));exact HO_8.out) (Kd.R_typed (by(with_reducible repeat(first|apply Fl|apply Fk|apply Fg));exact HO_9.out)) (by decide) hg);have n1_:=Fa (blk_grown (g:=gb182) (o:=.cells #[.int .i64 a0_0,.int .i64 a0_1,.slice A0_2 l0_2.length c0_2] 27 (0,0)) (by(with_reducible repeat(first|refine Fi ?_ _|refine Fc ?_|refine Fh ?_ _));exact BK182.out) hg (Kd.R_ne HO_9.out BK182.out (by decide)));have n2_:=Fa (blk_grown (g:=gb183) (o:=.cells #[.int .i64 a1_0,.int .i64 a1_1,.slice A1_2 l1_2.length c1_2] 27 (0,0)) (by(with_reducible repeat(first|refine Fi ?_ _|refine Fc ?_|refine Fh ?_ _));exact BK183.out) hg (Kd.R_ne HO_9.out BK183.out (by decide)));have n3_:=Fa (Kd.R_over' (by(with_reducible repeat(first|apply Fl|apply Fk|apply Fg));exact HO196.out) (Kd.R_typed (by(with_reducible repeat(first|apply Fl|apply Fk|apply Fg));exact HO_9.out)) (by decide) hg);have n4_:=Fa (hb);have n5_:=Fa (ho);clear HO_8;clear BK182;clear BK183;clear HO196;clear HB;clear HO_9;have HO_8:=n0_;have BK182:=n1_;have BK183:=n2_;have HO196:=n3_;have HB:=n4_;have HO200:=n5_;clear n0_ n1_ n2_ n3_ n4_ n5_;clear ho hb hg hat)))
        go_roundg k2
        case measure=>have:=HK1.out;have:=HK2.out;omega
        case rel=>exact⟨(y198),(wrap64 (x11_2+1)),(by first|rfl|(simp;done)|(simp [*];done)),H',⟨by have:=HK1.out;have:=HK2.out;omega⟩,⟨by(with_reducible repeat(first|apply Fl|apply Fk|apply Fg));exact Kd.R_mono HO_8.out (fun _ hk=>trivial)⟩,⟨by(with_reducible repeat(first|apply Fl|apply Fk|apply Fg));exact HO200.out⟩,⟨by(with_reducible repeat(first|refine Fi ?_ _|refine Fc ?_|refine Fh ?_ _));exact BK182.out⟩,⟨by(with_reducible repeat(first|refine Fi ?_ _|refine Fc ?_|refine Fh ?_ _));exact BK183.out⟩,⟨by repeat(first|(with_reducible first|exact HB.out|apply Fe|apply Fb|apply Ff|refine Fd ?_ GE182.out|refine Fd ?_ GE183.out)|exact HB.out)⟩⟩
       ·rw [if_neg c16] at H
        exact absurd H (by simp)
      ·rw [if_neg c13] at H
       have c13b0:decide (x11_2≤2)=false:=decide_eq_false c13
       clear c13
       have H':=Fa H
       clear H
       go_wp2
       repeat(go_quiet (fail);try go_wp2)
       go_roundg k2
       case measure=>have:=HK1.out;have:=HK2.out;omega
       case rel=>exact⟨(x9_2),(wrap64 (x10_1+1)),(by first|rfl|(simp;done)|(simp [*];done)),H',⟨by have:=HK1.out;have:=HK2.out;omega⟩,⟨by(with_reducible repeat(first|apply Fl|apply Fk|apply Fg));exact HO_8.out⟩,⟨by(with_reducible repeat(first|apply Fl|apply Fk|apply Fg));exact HO_9.out⟩,⟨by(with_reducible repeat(first|refine Fi ?_ _|refine Fc ?_|refine Fh ?_ _));exact BK182.out⟩,⟨by(with_reducible repeat(first|refine Fi ?_ _|refine Fc ?_|refine Fh ?_ _));exact BK183.out⟩,⟨by repeat(first|(with_reducible first|exact HB.out|apply Fe|apply Fb|apply Ff|refine Fd ?_ GE182.out|refine Fd ?_ GE183.out)|exact HB.out)⟩⟩
   ·rw [if_neg c12] at H
    have c12b0:decide (x10_1≤2)=false:=decide_eq_false c12
    clear c12
    replace H:=Option.bind_eq_some_iff.mp H
    obtain⟨⟨t190,t191,t192⟩,A240,H⟩:=H
    replace H:(some (t191,t192))=some (r1,r2):=H
    have A24:=Fa A240
    clear A240
    simp only [Option.some.injEq,Prod.mk.injEq] at H
    obtain⟨rfl,rfl⟩:=H
    obtain⟨Ao25,co25,eo25⟩:=Kd.R_slice HO_9.out
    subst eo25
    go_wp2_with (first|(go_at_call 88;(with_reducible refine(impl_motion_min.calls k1 _ _ x9_1 t190 t191 t192 _ ?side1 ?side2 A24.out).mono ?_);(case side1=>repeat(first|exact(Fu HO_9.out).2.2|(with_reducible refine Fs ?_ _)|(with_reducible refine Ft ?_ _)|(with_reducible refine Fo ?_)));(case side2=>exact(Fu HO_9.out).2.1);rintro e w26 ⟨rfl,hb⟩;have n0_:=Fa (Fr (by(with_reducible repeat(first|apply Fl|apply Fk|apply Fg));exact HO_8.out) hb);have n1_:=Fa (Fr (by(with_reducible repeat(first|apply Fl|apply Fk|apply Fg));exact HO_9.out) hb);have n2_:=Fa (Fm (g:=gb182) (o:=.cells #[.int .i64 a0_0,.int .i64 a0_1,.slice A0_2 l0_2.length c0_2] 27 (0,0)) (by(with_reducible repeat(first|refine Fi ?_ _|refine Fc ?_|refine Fh ?_ _));exact BK182.out) hb);have n3_:=Fa (Fm (g:=gb183) (o:=.cells #[.int .i64 a1_0,.int .i64 a1_1,.slice A1_2 l1_2.length c1_2] 27 (0,0)) (by(with_reducible repeat(first|refine Fi ?_ _|refine Fc ?_|refine Fh ?_ _));exact BK183.out) hb);have n4_:=Fa (Fq (by repeat(first|(with_reducible first|exact HB.out|apply Fe|apply Fb|apply Ff|refine Fd ?_ GE182.out|refine Fd ?_ GE183.out)|exact HB.out)) hb);clear HO_8;clear HO_9;clear BK182;clear BK183;clear HB;have HO_8:=n0_;have HO_9:=n1_;have BK182:=n2_;have BK183:=n3_;have HB:=n4_;clear n0_ n1_ n2_ n3_ n4_;(try clear hb);(try clear hb2);(try clear hk);(try clear hi))|((with_reducible refine gate_dst (N:=12) rfl ?_);refine box_event ?hg (N:=12) ?hd (cs:=#[.int .i64 0,.int .i64 0,.int .i64 0]) (t:=89) ?hr ?_;(case hd=>rfl);(case hg=>rfl);(case hr=>first|(go_simp;done)|(go_simp;rfl));intro gb193 hg w27 hbox hb;have n0_:=Fa (Fr (by(with_reducible repeat(first|apply Fl|apply Fk|apply Fg));exact HO_8.out) hb);have n1_:=Fa (Fr (Kd.R_elderB (by(with_reducible repeat(first|apply Fl|apply Fk|apply Fg));exact HO_9.out) gb193 (Nat.le_of_eq hg.symm)) hb);have n2_:=Fa (Fm (g:=gb182) (o:=.cells #[.int .i64 a0_0,.int .i64 a0_1,.slice A0_2 l0_2.length c0_2] 27 (0,0)) (by(with_reducible repeat(first|refine Fi ?_ _|refine Fc ?_|refine Fh ?_ _));exact BK182.out) hb);have n3_:=Fa (Fm (g:=gb183) (o:=.cells #[.int .i64 a1_0,.int .i64 a1_1,.slice A1_2 l1_2.length c1_2] 27 (0,0)) (by(with_reducible repeat(first|refine Fi ?_ _|refine Fc ?_|refine Fh ?_ _));exact BK183.out) hb);have n4_:=Fa (Fq (by repeat(first|(with_reducible first|exact HB.out|apply Fe|apply Fb|apply Ff|refine Fd ?_ GE182.out|refine Fd ?_ GE183.out)|exact HB.out)) hb);have n5_:=Fa (hbox);have n6_:=Fa ((by rw [hg];exact(Fp (by repeat(first|(with_reducible first|exact HB.out|apply Fe|apply Fb|apply Ff|refine Fd ?_ GE182.out|refine Fd ?_ GE183.out)|exact HB.out))):w.heap.size≤gb193));have n7_:=Fa ((by rw [hg];exact(Fp (by repeat(first|(with_reducible first|exact HB.out|apply Fe|apply Fb|apply Ff|refine Fd ?_ GE182.out|refine Fd ?_ GE183.out)|exact HB.out))):w.heap.size≤gb193));have n8_:=Fa ((by rw [hg];exact Nat.ne_of_lt (blk_lt (g:=gb182) (o:=.cells #[.int .i64 a0_0,.int .i64 a0_1,.slice A0_2 l0_2.length c0_2] 27 (0,0)) (by(with_reducible repeat(first|refine Fi ?_ _|refine Fc ?_|refine Fh ?_ _));exact BK182.out)):gb182≠gb193));have n9_:=Fa ((by rw [hg];exact Nat.ne_of_gt (blk_lt (g:=gb182) (o:=.cells #[.int .i64 a0_0,.int .i64 a0_1,.slice A0_2 l0_2.length c0_2] 27 (0,0)) (by(with_reducible repeat(first|refine Fi ?_ _|refine Fc ?_|refine Fh ?_ _));exact BK182.out)):gb193≠gb182));have n10_:=Fa ((by rw [hg];exact Nat.ne_of_lt (blk_lt (g:=gb183) (o:=.cells #[.int .i64 a1_0,.int .i64 a1_1,.slice A1_2 l1_2.length c1_2] 27 (0,0)) (by(with_reducible repeat(first|refine Fi ?_ _|refine Fc ?_|refine Fh ?_ _));exact BK183.out)):gb183≠gb193));have n11_:=Fa ((by rw [hg];exact Nat.ne_of_gt (blk_lt (g:=gb183) (o:=.cells #[.int .i64 a1_0,.int .i64 a1_1,.slice A1_2 l1_2.length c1_2] 27 (0,0)) (by(with_reducible repeat(first|refine Fi ?_ _|refine Fc ?_|refine Fh ?_ _));exact BK183.out)):gb193≠gb183));clear HO_8;clear HO_9;clear BK182;clear BK183;clear HB;have HO_8:=n0_;have HO_9:=n1_;have BK182:=n2_;have BK183:=n3_;have HB:=n4_;have BK193:=n5_;have GW193:=n6_;have GE193:=n7_;have NB182_193:=n8_;have NB193_182:=n9_;have NB183_193:=n10_;have NB193_183:=n11_;clear n0_ n1_ n2_ n3_ n4_ n5_ n6_ n7_ n8_ n9_ n10_ n11_;clear hb hbox hg;have hnb28:=NB193_182.out;have hnc28:=NB182_193.out;have hnb29:=NB193_183.out;have hnc29:=NB183_193.out;have hcz30_0:w27.cell? ⟨gb193,0,none⟩=some (.int .i64 0):=(Fn BK193.out 0).trans rfl;have hcz30_1:w27.cell? ⟨gb193,1,none⟩=some (.int .i64 0):=(Fn BK193.out 1).trans rfl;have hcz30_2:w27.cell? ⟨gb193,2,none⟩=some (.int .i64 0):=(Fn BK193.out 2).trans rfl;have hfz30_0:=Fj BK193.out 0;have hfz30_1:=Fj BK193.out 1;have hfz30_2:=Fj BK193.out 2))
    repeat(go_quiet (first|(go_at_call 88;(with_reducible refine(impl_motion_min.calls k1 _ _ x9_1 t190 t191 t192 _ ?side1 ?side2 A24.out).mono ?_);(case side1=>repeat(first|exact(Fu HO_9.out).2.2|(with_reducible refine Fs ?_ _)|(with_reducible refine Ft ?_ _)|(with_reducible refine Fo ?_)));(case side2=>exact(Fu HO_9.out).2.1);rintro e w26 ⟨rfl,hb⟩;have n0_:=Fa (Fr (by(with_reducible repeat(first|apply Fl|apply Fk|apply Fg));exact HO_8.out) hb);have n1_:=Fa (Fr (by(with_reducible repeat(first|apply Fl|apply Fk|apply Fg));exact HO_9.out) hb);have n2_:=Fa (Fm (g:=gb182) (o:=.cells #[.int .i64 a0_0,.int .i64 a0_1,.slice A0_2 l0_2.length c0_2] 27 (0,0)) (by(with_reducible repeat(first|refine Fi ?_ _|refine Fc ?_|refine Fh ?_ _));exact BK182.out) hb);have n3_:=Fa (Fm (g:=gb183) (o:=.cells #[.int .i64 a1_0,.int .i64 a1_1,.slice A1_2 l1_2.length c1_2] 27 (0,0)) (by(with_reducible repeat(first|refine Fi ?_ _|refine Fc ?_|refine Fh ?_ _));exact BK183.out) hb);have n4_:=Fa (Fq (by repeat(first|(with_reducible first|exact HB.out|apply Fe|apply Fb|apply Ff|refine Fd ?_ GE182.out|refine Fd ?_ GE183.out)|exact HB.out)) hb);clear HO_8;clear HO_9;clear BK182;clear BK183;clear HB;have HO_8:=n0_;have HO_9:=n1_;have BK182:=n2_;have BK183:=n3_;have HB:=n4_;clear n0_ n1_ n2_ n3_ n4_;(try clear hb);(try clear hb2);(try clear hk);(try clear hi))|((with_reducible refine gate_dst (N:=12) rfl ?_);refine box_event ?hg (N:=12) ?hd (cs:=#[.int .i64 0,.int .i64 0,.int .i64 0]) (t:=89) ?hr ?_;(case hd=>rfl);(case hg=>rfl);(case hr=>first|(go_simp;done)|(go_simp;rfl));intro gb193 hg w27 hbox hb;have n0_:=Fa (Fr (by(with_reducible repeat(first|apply Fl|apply Fk|apply Fg));exact HO_8.out) hb);have n1_:=Fa (Fr (Kd.R_elderB (by(with_reducible repeat(first|apply Fl|apply Fk|apply Fg));exact HO_9.out) gb193 (Nat.le_of_eq hg.symm)) hb);have n2_:=Fa (Fm (g:=gb182) (o:=.cells #[.int .i64 a0_0,.int .i64 a0_1,.slice A0_2 l0_2.length c0_2] 27 (0,0)) (by(with_reducible repeat(first|refine Fi ?_ _|refine Fc ?_|refine Fh ?_ _));exact BK182.out) hb);have n3_:=Fa (Fm (g:=gb183) (o:=.cells #[.int .i64 a1_0,.int .i64 a1_1,.slice A1_2 l1_2.length c1_2] 27 (0,0)) (by(with_reducible repeat(first|refine Fi ?_ _|refine Fc ?_|refine Fh ?_ _));exact BK183.out) hb);have n4_:=Fa (Fq (by repeat(first|(with_reducible first|exact HB.out|apply Fe|apply Fb|apply Ff|refine Fd ?_ GE182.out|refine Fd ?_ GE183.out)|exact HB.out)) hb);have n5_:=Fa (hbox);have n6_:=Fa ((by rw [hg];exact(Fp (by repeat(first|(with_reducible first|exact HB.out|apply Fe|apply Fb|apply Ff|refine Fd ?_ GE182.out|refine Fd ?_ GE183.out)|exact HB.out))):w.heap.size≤gb193));have n7_:=Fa ((by rw [hg];exact(Fp (by repeat(first|(with_reducible first|exact HB.out|apply Fe|apply Fb|apply Ff|refine Fd ?_ GE182.out|refine Fd ?_ GE183.out)|exact HB.out))):w.heap.size≤gb193));have n8_:=Fa ((by rw [hg];exact Nat.ne_of_lt (blk_lt (g:=gb182) (o:=.cells #[.int .i64 a0_0,.int .i64 a0_1,.slice A0_2 l0_2.length c0_2] 27 (0,0)) (by(with_reducible repeat(first|refine Fi ?_ _|refine Fc ?_|refine Fh ?_ _));exact BK182.out)):gb182≠gb193));have n9_:=Fa ((by rw [hg];exact Nat.ne_of_gt (blk_lt (g:=gb182) (o:=.cells #[.int .i64 a0_0,.int .i64 a0_1,.slice A0_2 l0_2.length c0_2] 27 (0,0)) (by(with_reducible repeat(first|refine Fi ?_ _|refine Fc ?_|refine Fh ?_ _));exact BK182.out)):gb193≠gb182));have n10_:=Fa ((by rw [hg];exact Nat.ne_of_lt (blk_lt (g:=gb183) (o:=.cells #[.int .i64 a1_0,.int .i64 a1_1,.slice A1_2 l1_2.length c1_2] 27 (0,0)) (by(with_reducible repeat(first|refine Fi ?_ _|refine Fc ?_|refine Fh ?_ _));exact BK183.out)):gb183≠gb193));have n11_:=Fa ((by rw [hg];exact Nat.ne_of_gt (blk_lt (g:=gb183) (o:=.cells #[.int .i64 a1_0,.int .i64 a1_1,.slice A1_2 l1_2.length c1_2] 27 (0,0)) (by(with_reducible repeat(first|refine Fi ?_ _|refine Fc ?_|refine Fh ?_ _));exact BK183.out)):gb193≠gb183));clear HO_8;clear HO_9;clear BK182;clear BK183;clear HB;have HO_8:=n0_;have HO_9:=n1_;have BK182:=n2_;have BK183:=n3_;have HB:=n4_;have BK193:=n5_;have GW193:=n6_;have GE193:=n7_;have NB182_193:=n8_;have NB193_182:=n9_;have NB183_193:=n10_;have NB193_183:=n11_;clear n0_ n1_ n2_ n3_ n4_ n5_ n6_ n7_ n8_ n9_ n10_ n11_;clear hb hbox hg;have hnb28:=NB193_182.out;have hnc28:=NB182_193.out;have hnb29:=NB193_183.out;have hnc29:=NB183_193.out;have hcz30_0:w27.cell? ⟨gb193,0,none⟩=some (.int .i64 0):=(Fn BK193.out 0).trans rfl;have hcz30_1:w27.cell? ⟨gb193,1,none⟩=some (.int .i64 0):=(Fn BK193.out 1).trans rfl;have hcz30_2:w27.cell? ⟨gb193,2,none⟩=some (.int .i64 0):=(Fn BK193.out 2).trans rfl;have hfz30_0:=Fj BK193.out 0;have hfz30_1:=Fj BK193.out 1;have hfz30_2:=Fj BK193.out 2));try go_wp2_with (first|(go_at_call 88;(with_reducible refine(impl_motion_min.calls k1 _ _ x9_1 t190 t191 t192 _ ?side1 ?side2 A24.out).mono ?_);(case side1=>repeat(first|exact(Fu HO_9.out).2.2|(with_reducible refine Fs ?_ _)|(with_reducible refine Ft ?_ _)|(with_reducible refine Fo ?_)));(case side2=>exact(Fu HO_9.out).2.1);rintro e w26 ⟨rfl,hb⟩;have n0_:=Fa (Fr (by(with_reducible repeat(first|apply Fl|apply Fk|apply Fg));exact HO_8.out) hb);have n1_:=Fa (Fr (by(with_reducible repeat(first|apply Fl|apply Fk|apply Fg));exact HO_9.out) hb);have n2_:=Fa (Fm (g:=gb182) (o:=.cells #[.int .i64 a0_0,.int .i64 a0_1,.slice A0_2 l0_2.length c0_2] 27 (0,0)) (by(with_reducible repeat(first|refine Fi ?_ _|refine Fc ?_|refine Fh ?_ _));exact BK182.out) hb);have n3_:=Fa (Fm (g:=gb183) (o:=.cells #[.int .i64 a1_0,.int .i64 a1_1,.slice A1_2 l1_2.length c1_2] 27 (0,0)) (by(with_reducible repeat(first|refine Fi ?_ _|refine Fc ?_|refine Fh ?_ _));exact BK183.out) hb);have n4_:=Fa (Fq (by repeat(first|(with_reducible first|exact HB.out|apply Fe|apply Fb|apply Ff|refine Fd ?_ GE182.out|refine Fd ?_ GE183.out)|exact HB.out)) hb);clear HO_8;clear HO_9;clear BK182;clear BK183;clear HB;have HO_8:=n0_;have HO_9:=n1_;have BK182:=n2_;have BK183:=n3_;have HB:=n4_;clear n0_ n1_ n2_ n3_ n4_;(try clear hb);(try clear hb2);(try clear hk);(try clear hi))|((with_reducible refine gate_dst (N:=12) rfl ?_);refine box_event ?hg (N:=12) ?hd (cs:=#[.int .i64 0,.int .i64 0,.int .i64 0]) (t:=89) ?hr ?_;(case hd=>rfl);(case hg=>rfl);(case hr=>first|(go_simp;done)|(go_simp;rfl));intro gb193 hg w27 hbox hb;have n0_:=Fa (Fr (by(with_reducible repeat(first|apply Fl|apply Fk|apply Fg));exact HO_8.out) hb);have n1_:=Fa (Fr (Kd.R_elderB (by(with_reducible repeat(first|apply Fl|apply Fk|apply Fg));exact HO_9.out) gb193 (Nat.le_of_eq hg.symm)) hb);have n2_:=Fa (Fm (g:=gb182) (o:=.cells #[.int .i64 a0_0,.int .i64 a0_1,.slice A0_2 l0_2.length c0_2] 27 (0,0)) (by(with_reducible repeat(first|refine Fi ?_ _|refine Fc ?_|refine Fh ?_ _));exact BK182.out) hb);have n3_:=Fa (Fm (g:=gb183) (o:=.cells #[.int .i64 a1_0,.int .i64 a1_1,.slice A1_2 l1_2.length c1_2] 27 (0,0)) (by(with_reducible repeat(first|refine Fi ?_ _|refine Fc ?_|refine Fh ?_ _));exact BK183.out) hb);have n4_:=Fa (Fq (by repeat(first|(with_reducible first|exact HB.out|apply Fe|apply Fb|apply Ff|refine Fd ?_ GE182.out|refine Fd ?_ GE183.out)|exact HB.out)) hb);have n5_:=Fa (hbox);have n6_:=Fa ((by rw [hg];exact(Fp (by repeat(first|(with_reducible first|exact HB.out|apply Fe|apply Fb|apply Ff|refine Fd ?_ GE182.out|refine Fd ?_ GE183.out)|exact HB.out))):w.heap.size≤gb193));have n7_:=Fa ((by rw [hg];exact(Fp (by repeat(first|(with_reducible first|exact HB.out|apply Fe|apply Fb|apply Ff|refine Fd ?_ GE182.out|refine Fd ?_ GE183.out)|exact HB.out))):w.heap.size≤gb193));have n8_:=Fa ((by rw [hg];exact Nat.ne_of_lt (blk_lt (g:=gb182) (o:=.cells #[.int .i64 a0_0,.int .i64 a0_1,.slice A0_2 l0_2.length c0_2] 27 (0,0)) (by(with_reducible repeat(first|refine Fi ?_ _|refine Fc ?_|refine Fh ?_ _));exact BK182.out)):gb182≠gb193));have n9_:=Fa ((by rw [hg];exact Nat.ne_of_gt (blk_lt (g:=gb182) (o:=.cells #[.int .i64 a0_0,.int .i64 a0_1,.slice A0_2 l0_2.length c0_2] 27 (0,0)) (by(with_reducible repeat(first|refine Fi ?_ _|refine Fc ?_|refine Fh ?_ _));exact BK182.out)):gb193≠gb182));have n10_:=Fa ((by rw [hg];exact Nat.ne_of_lt (blk_lt (g:=gb183) (o:=.cells #[.int .i64 a1_0,.int .i64 a1_1,.slice A1_2 l1_2.length c1_2] 27 (0,0)) (by(with_reducible repeat(first|refine Fi ?_ _|refine Fc ?_|refine Fh ?_ _));exact BK183.out)):gb183≠gb193));have n11_:=Fa ((by rw [hg];exact Nat.ne_of_gt (blk_lt (g:=gb183) (o:=.cells #[.int .i64 a1_0,.int .i64 a1_1,.slice A1_2 l1_2.length c1_2] 27 (0,0)) (by(with_reducible repeat(first|refine Fi ?_ _|refine Fc ?_|refine Fh ?_ _));exact BK183.out)):gb193≠gb183));clear HO_8;clear HO_9;clear BK182;clear BK183;clear HB;have HO_8:=n0_;have HO_9:=n1_;have BK182:=n2_;have BK183:=n3_;have HB:=n4_;have BK193:=n5_;have GW193:=n6_;have GE193:=n7_;have NB182_193:=n8_;have NB193_182:=n9_;have NB183_193:=n10_;have NB193_183:=n11_;clear n0_ n1_ n2_ n3_ n4_ n5_ n6_ n7_ n8_ n9_ n10_ n11_;clear hb hbox hg;have hnb28:=NB193_182.out;have hnc28:=NB182_193.out;have hnb29:=NB193_183.out;have hnc29:=NB183_193.out;have hcz30_0:w27.cell? ⟨gb193,0,none⟩=some (.int .i64 0):=(Fn BK193.out 0).trans rfl;have hcz30_1:w27.cell? ⟨gb193,1,none⟩=some (.int .i64 0):=(Fn BK193.out 1).trans rfl;have hcz30_2:w27.cell? ⟨gb193,2,none⟩=some (.int .i64 0):=(Fn BK193.out 2).trans rfl;have hfz30_0:=Fj BK193.out 0;have hfz30_1:=Fj BK193.out 1;have hfz30_2:=Fj BK193.out 2)))
    go_ret2
    exact⟨by first|rfl|(simp [errW_none,errW_some] <;> rfl)|(simp [*,errW_none,errW_some] <;> rfl),by repeat(first|(with_reducible first|exact HB.out|apply Fe|apply Fb|apply Ff|refine Fd ?_ GE182.out|refine Fd ?_ GE183.out|refine Fd ?_ GE193.out)|exact HB.out)⟩

/-! ### impl_Motion: function 32 -/
def impl_Motion.f (k : Nat) (a0_0 : Int) (a0_1 : Int) (l0_2 : List Int) (a1_0 : Int) (a1_1 : Int) (l1_2 : List Int) (a2 : Int) : Option (Int × Int) := (impl_bothOk.f a0_0 a0_1 l0_2 a1_0 a1_1 l1_2).bind fun t203 => (if t203 = true then ((impl_Picture_blocks.f a1_0 a1_1 l1_2).bind fun t204 => ((impl_in.f a2 0 (wrap64 (t204 - 1))).bind fun t205 => (if t205 = true then ((impl_motion.f k a0_0 a0_1 l0_2 a1_0 a1_1 l1_2 a2).bind fun bt206 => (some (bt206.1, bt206.2))) else (some (0, 0))))) else (some (0, 0)))
theorem impl_Motion.mono : ∀ a0 a1 a2 a3 a4 a5 a6 k, LeO (impl_Motion.f k a0 a1 a2 a3 a4 a5 a6) (impl_Motion.f (k + 1) a0 a1 a2 a3 a4 a5 a6) := by
 intro a0 a1 a2 a3 a4 a5 a6 k
 unfold impl_Motion.f
 repeat' first
   | (with_reducible exact impl_motion.mono _ _ _ _ _ _ _ _)
   | (with_reducible exact LeO.refl _)
   | (with_reducible exact LeO.none _)
   | (with_reducible refine LeO.ite ?_ ?_)
   | (with_reducible refine LeO.bind ?_ (fun _ => ?_))
   | exact impl_motion.mono _ _ _ _ _ _ _ _
   | exact LeO.none _
   | refine LeO.ite ?_ ?_
   | refine LeO.bind ?_ (fun _ => ?_)
set_option maxHeartbeats 8000000 in
set_option maxRecDepth 100000 in
theorem impl_Motion.calls (k : Nat) (a0_0 : Int) (a0_1 : Int) (A0_2 : Option Addr) (c0_2 : Nat) (l0_2 : List Int) (a1_0 : Int) (a1_1 : Int) (A1_2 : Option Addr) (c1_2 : Nat) (l1_2 : List Int) (a2 : Int) (r1 : Int) (r2 : Int) (w : World) (hr0_2 : Kd.C (Kd.int .i64) w A0_2 l0_2.length l0_2) (hc0_2 : l0_2.length ≤ c0_2) (hr1_2 : Kd.C (Kd.int .i64) w A1_2 l1_2.length l1_2) (hc1_2 : l1_2.length ≤ c1_2) (h : impl_Motion.f k a0_0 a0_1 l0_2 a1_0 a1_1 l1_2 a2 = some (r1, r2)) :
  Calls Try.prog 32 #[.agg #[.int .i64 a0_0,.int .i64 a0_1,.slice A0_2 l0_2.length c0_2],.agg #[.int .i64 a1_0,.int .i64 a1_1,.slice A1_2 l1_2.length c1_2],.int .i64 a2] w fun e w'=>e=.returned (.tuple #[.int .i64 r1,.int .i64 r2])∧Below w.heap.size w w':=by
 have hu27:=Try.underlying27
 have HR0_2:=Fa hr0_2
 have HC0_2:=Fa hc0_2
 clear hr0_2 hc0_2
 have HR1_2:=Fa hr1_2
 have HC1_2:=Fa hc1_2
 clear hr1_2 hc1_2
 have HB:=Fa (Below.refl w.heap.size w)
 have H:((impl_bothOk.f a0_0 a0_1 l0_2 a1_0 a1_1 l1_2).bind fun t203=>(if t203=true then ((impl_Picture_blocks.f a1_0 a1_1 l1_2).bind fun t204=>((impl_in.f a2 0 (wrap64 (t204 - 1))).bind fun t205=>(if t205=true then ((impl_motion.f k a0_0 a0_1 l0_2 a1_0 a1_1 l1_2 a2).bind fun bt206=>(some (bt206.1,bt206.2))) else (some (0,0))))) else (some (0,0))))=some (r1,r2):=h
 clear h
 replace H:=Option.bind_eq_some_iff.mp H
 obtain⟨t203,A40,H⟩:=H
 replace H:(if t203=true then ((impl_Picture_blocks.f a1_0 a1_1 l1_2).bind fun t204=>((impl_in.f a2 0 (wrap64 (t204 - 1))).bind fun t205=>(if t205=true then ((impl_motion.f k a0_0 a0_1 l0_2 a1_0 a1_1 l1_2 a2).bind fun bt206=>(some (bt206.1,bt206.2))) else (some (0,0))))) else (some (0,0)))=some (r1,r2):=H
 have A4:=Fa A40
 clear A40
 by_cases c5:t203=true
 ·subst c5
  have H1:((impl_Picture_blocks.f a1_0 a1_1 l1_2).bind fun t204=>((impl_in.f a2 0 (wrap64 (t204 - 1))).bind fun t205=>(if t205=true then ((impl_motion.f k a0_0 a0_1 l0_2 a1_0 a1_1 l1_2 a2).bind fun bt206=>(some (bt206.1,bt206.2))) else (some (0,0)))))=some (r1,r2):=by rw [if_pos rfl] at H;exact H
  clear H
  have H:=H1
  clear H1
  replace H:=Option.bind_eq_some_iff.mp H
  obtain⟨t204,A60,H⟩:=H
  replace H:((impl_in.f a2 0 (wrap64 (t204 - 1))).bind fun t205=>(if t205=true then ((impl_motion.f k a0_0 a0_1 l0_2 a1_0 a1_1 l1_2 a2).bind fun bt206=>(some (bt206.1,bt206.2))) else (some (0,0))))=some (r1,r2):=H
  have A6:=Fa A60
  clear A60
  replace H:=Option.bind_eq_some_iff.mp H
  obtain⟨t205,A70,H⟩:=H
  replace H:(if t205=true then ((impl_motion.f k a0_0 a0_1 l0_2 a1_0 a1_1 l1_2 a2).bind fun bt206=>(some (bt206.1,bt206.2))) else (some (0,0)))=some (r1,r2):=H
  have A7:=Fa A70
  clear A70
  by_cases c8:t205=true
  ·subst c8
   have H1:((impl_motion.f k a0_0 a0_1 l0_2 a1_0 a1_1 l1_2 a2).bind fun bt206=>(some (bt206.1,bt206.2)))=some (r1,r2):=by rw [if_pos rfl] at H;exact H
   clear H
   have H:=H1
   clear H1
   replace H:=Option.bind_eq_some_iff.mp H
   obtain⟨⟨t206,t207⟩,A90,H⟩:=H
   replace H:(some (t206,t207))=some (r1,r2):=H
   have A9:=Fa A90
   clear A90
   simp only [Option.some.injEq,Prod.mk.injEq] at H
   obtain⟨rfl,rfl⟩:=H
   go_enter Try.func32,Try.ntmps32
   go_wp2_with (first|((with_reducible refine gate_dst (N:=3) rfl ?_);refine box_event ?hg (N:=3) ?hd (cs:=#[.int .i64 a0_0,.int .i64 a0_1,.slice A0_2 l0_2.length c0_2]) (t:=27) ?hr ?_;(case hd=>rfl);(case hg=>rfl);(case hr=>first|(go_simp;done)|(go_simp;rfl));intro gb201 hg w10 hbox hb;have n0_:=Fa (Fq (by repeat(first|(with_reducible first|exact HB.out|apply Fe|apply Fb|apply Ff)|exact HB.out)) hb);have n1_:=Fa (hbox);have n2_:=Fa ((by rw [hg];exact(Fp (by repeat(first|(with_reducible first|exact HB.out|apply Fe|apply Fb|apply Ff)|exact HB.out))):w.heap.size≤gb201));have n3_:=Fa ((by rw [hg];exact(Fp (by repeat(first|(with_reducible first|exact HB.out|apply Fe|apply Fb|apply Ff)|exact HB.out))):w.heap.size≤gb201));clear HB;have HB:=n0_;have BK201:=n1_;have GW201:=n2_;have GE201:=n3_;clear n0_ n1_ n2_ n3_;clear hb hbox hg)|((with_reducible refine gate_dst (N:=4) rfl ?_);refine box_event ?hg (N:=4) ?hd (cs:=#[.int .i64 a1_0,.int .i64 a1_1,.slice A1_2 l1_2.length c1_2]) (t:=27) ?hr ?_;(case hd=>rfl);(case hg=>rfl);(case hr=>first|(go_simp;done)|(go_simp;rfl));intro gb202 hg w11 hbox hb;have n0_:=Fa (Fm (g:=gb201) (o:=.cells #[.int .i64 a0_0,.int .i64 a0_1,.slice A0_2 l0_2.length c0_2] 27 (0,0)) (by(with_reducible repeat(first|refine Fi ?_ _|refine Fc ?_|refine Fh ?_ _));exact BK201.out) hb);have n1_:=Fa (Fq (by repeat(first|(with_reducible first|exact HB.out|apply Fe|apply Fb|apply Ff|refine Fd ?_ GE201.out)|exact HB.out)) hb);have n2_:=Fa (hbox);have n3_:=Fa ((by rw [hg];exact(Fp (by repeat(first|(with_reducible first|exact HB.out|apply Fe|apply Fb|apply Ff|refine Fd ?_ GE201.out)|exact HB.out))):w.heap.size≤gb202));have n4_:=Fa ((by rw [hg];exact(Fp (by repeat(first|(with_reducible first|exact HB.out|apply Fe|apply Fb|apply Ff|refine Fd ?_ GE201.out)|exact HB.out))):w.heap.size≤gb202));have n5_:=Fa ((by rw [hg];exact Nat.ne_of_lt (blk_lt (g:=gb201) (o:=.cells #[.int .i64 a0_0,.int .i64 a0_1,.slice A0_2 l0_2.length c0_2] 27 (0,0)) (by(with_reducible repeat(first|refine Fi ?_ _|refine Fc ?_|refine Fh ?_ _));exact BK201.out)):gb201≠gb202));have n6_:=Fa ((by rw [hg];exact Nat.ne_of_gt (blk_lt (g:=gb201) (o:=.cells #[.int .i64 a0_0,.int .i64 a0_1,.slice A0_2 l0_2.length c0_2] 27 (0,0)) (by(with_reducible repeat(first|refine Fi ?_ _|refine Fc ?_|refine Fh ?_ _));exact BK201.out)):gb202≠gb201));clear BK201;clear HB;have BK201:=n0_;have HB:=n1_;have BK202:=n2_;have GW202:=n3_;have GE202:=n4_;have NB201_202:=n5_;have NB202_201:=n6_;clear n0_ n1_ n2_ n3_ n4_ n5_ n6_;clear hb hbox hg;have hnb12:=NB201_202.out;have hnc12:=NB202_201.out;have hcz13_0:w11.cell? ⟨gb201,0,none⟩=some (.int .i64 a0_0):=(Fn BK201.out 0).trans rfl;have hcz13_1:w11.cell? ⟨gb201,1,none⟩=some (.int .i64 a0_1):=(Fn BK201.out 1).trans rfl;have hcz13_2:w11.cell? ⟨gb201,2,none⟩=some (.slice A0_2 l0_2.length c0_2):=(Fn BK201.out 2).trans rfl;have hfz13_0:=Fj BK201.out 0;have hfz13_1:=Fj BK201.out 1;have hfz13_2:=Fj BK201.out 2;have hcz14_0:w11.cell? ⟨gb202,0,none⟩=some (.int .i64 a1_0):=(Fn BK202.out 0).trans rfl;have hcz14_1:w11.cell? ⟨gb202,1,none⟩=some (.int .i64 a1_1):=(Fn BK202.out 1).trans rfl;have hcz14_2:w11.cell? ⟨gb202,2,none⟩=some (.slice A1_2 l1_2.length c1_2):=(Fn BK202.out 2).trans rfl;have hfz14_0:=Fj BK202.out 0;have hfz14_1:=Fj BK202.out 1;have hfz14_2:=Fj BK202.out 2)|((with_reducible refine gate_callee (f:=69) rfl ?_);refine goesL_ (some 10) rfl rfl Try.func69 (by kernel_rfl) rfl #[.agg #[.int .i64 a0_0,.int .i64 a0_1,.slice A0_2 l0_2.length c0_2],.agg #[.int .i64 a1_0,.int .i64 a1_1,.slice A1_2 l1_2.length c1_2]] rfl (by(try simp only [List.map_toArray,List.map_cons,List.map_nil]);first|done|rfl|(simp only [List.length_drop,List.length_take];rfl)) ?_;(with_reducible refine(impl_bothOk.calls a0_0 a0_1 _ _ l0_2 a1_0 a1_1 _ _ l1_2 true _ ?side1 ?side2 ?side3 ?side4 A4.out).mono ?_);(case side1=>repeat(first|exact(Fv HR0_2.out HB.out)|(with_reducible refine Fs ?_ _)|(with_reducible refine Ft ?_ _)|(with_reducible refine Fo ?_)));(case side2=>exact HC0_2.out);(case side3=>repeat(first|exact(Fv HR1_2.out HB.out)|(with_reducible refine Fs ?_ _)|(with_reducible refine Ft ?_ _)|(with_reducible refine Fo ?_)));(case side4=>exact HC1_2.out);rintro e w15 ⟨rfl,hb⟩;refine⟨_,rfl,?_⟩;have n0_:=Fa (Fm (g:=gb201) (o:=.cells #[.int .i64 a0_0,.int .i64 a0_1,.slice A0_2 l0_2.length c0_2] 27 (0,0)) (by(with_reducible repeat(first|refine Fi ?_ _|refine Fc ?_|refine Fh ?_ _));exact BK201.out) hb);have n1_:=Fa (Fm (g:=gb202) (o:=.cells #[.int .i64 a1_0,.int .i64 a1_1,.slice A1_2 l1_2.length c1_2] 27 (0,0)) (by(with_reducible repeat(first|refine Fi ?_ _|refine Fc ?_|refine Fh ?_ _));exact BK202.out) hb);have n2_:=Fa (Fq (by repeat(first|(with_reducible first|exact HB.out|apply Fe|apply Fb|apply Ff|refine Fd ?_ GE201.out|refine Fd ?_ GE202.out)|exact HB.out)) hb);clear BK201;clear BK202;clear HB;have BK201:=n0_;have BK202:=n1_;have HB:=n2_;clear n0_ n1_ n2_;(try clear hb);(try clear hb2);(try clear hk);(try clear hi);have hcz16_0:w15.cell? ⟨gb202,0,none⟩=some (.int .i64 a1_0):=(Fn BK202.out 0).trans rfl;have hcz16_1:w15.cell? ⟨gb202,1,none⟩=some (.int .i64 a1_1):=(Fn BK202.out 1).trans rfl;have hcz16_2:w15.cell? ⟨gb202,2,none⟩=some (.slice A1_2 l1_2.length c1_2):=(Fn BK202.out 2).trans rfl;have hfz16_0:=Fj BK202.out 0;have hfz16_1:=Fj BK202.out 1;have hfz16_2:=Fj BK202.out 2)|(go_at_call 70;(with_reducible refine(impl_Picture_blocks.calls a1_0 a1_1 _ _ l1_2 t204 _ ?side1 ?side2 A6.out).mono ?_);(case side1=>repeat(first|exact(Fv HR1_2.out HB.out)|(with_reducible refine Fs ?_ _)|(with_reducible refine Ft ?_ _)|(with_reducible refine Fo ?_)));(case side2=>exact HC1_2.out);rintro e w17 ⟨rfl,hb⟩;have n0_:=Fa (Fm (g:=gb201) (o:=.cells #[.int .i64 a0_0,.int .i64 a0_1,.slice A0_2 l0_2.length c0_2] 27 (0,0)) (by(with_reducible repeat(first|refine Fi ?_ _|refine Fc ?_|refine Fh ?_ _));exact BK201.out) hb);have n1_:=Fa (Fm (g:=gb202) (o:=.cells #[.int .i64 a1_0,.int .i64 a1_1,.slice A1_2 l1_2.length c1_2] 27 (0,0)) (by(with_reducible repeat(first|refine Fi ?_ _|refine Fc ?_|refine Fh ?_ _));exact BK202.out) hb);have n2_:=Fa (Fq (by repeat(first|(with_reducible first|exact HB.out|apply Fe|apply Fb|apply Ff|refine Fd ?_ GE201.out|refine Fd ?_ GE202.out)|exact HB.out)) hb);clear BK201;clear BK202;clear HB;have BK201:=n0_;have BK202:=n1_;have HB:=n2_;clear n0_ n1_ n2_;(try clear hb);(try clear hb2);(try clear hk);(try clear hi))|(go_at_call 49;(with_reducible refine(impl_in.calls a2 0 (wrap64 (t204 - 1)) true _ A7.out).mono ?_);rintro e w' ⟨rfl,⟨nd,rfl⟩⟩;have hcz18_0:w17.cell? ⟨gb201,0,none⟩=some (.int .i64 a0_0):=(Fn BK201.out 0).trans rfl;have hcz18_1:w17.cell? ⟨gb201,1,none⟩=some (.int .i64 a0_1):=(Fn BK201.out 1).trans rfl;have hcz18_2:w17.cell? ⟨gb201,2,none⟩=some (.slice A0_2 l0_2.length c0_2):=(Fn BK201.out 2).trans rfl;have hfz18_0:=Fj BK201.out 0;have hfz18_1:=Fj BK201.out 1;have hfz18_2:=Fj BK201.out 2;have hcz19_0:w17.cell? ⟨gb202,0,none⟩=some (.int .i64 a1_0):=(Fn BK202.out 0).trans rfl;have hcz19_1:w17.cell? ⟨gb202,1,none⟩=some (.int .i64 a1_1):=(Fn BK202.out 1).trans rfl;have hcz19_2:w17.cell? ⟨gb202,2,none⟩=some (.slice A1_2 l1_2.length c1_2):=(Fn BK202.out 2).trans rfl;have hfz19_0:=Fj BK202.out 0;have hfz19_1:=Fj BK202.out 1;have hfz19_2:=Fj BK202.out 2)|((with_reducible refine gate_callee (f:=71) rfl ?_);refine goesL_ (some 23) rfl rfl Try.func71 (by kernel_rfl) rfl #[.agg #[.int .i64 a0_0,.int .i64 a0_1,.slice A0_2 l0_2.length c0_2],.agg #[.int .i64 a1_0,.int .i64 a1_1,.slice A1_2 l1_2.length c1_2],.int .i64 a2] rfl (by(try simp only [List.map_toArray,List.map_cons,List.map_nil]);first|done|rfl|(simp only [List.length_drop,List.length_take];rfl)) ?_;(with_reducible refine(impl_motion.calls k a0_0 a0_1 _ _ l0_2 a1_0 a1_1 _ _ l1_2 a2 t206 t207 _ ?side1 ?side2 ?side3 ?side4 A9.out).mono ?_);(case side1=>repeat(first|exact(Fv HR0_2.out (by repeat(first|(with_reducible first|exact HB.out|apply Fe|apply Fb|apply Ff|refine Fd ?_ GE201.out|refine Fd ?_ GE202.out)|exact HB.out)))|(with_reducible refine Fs ?_ _)|(with_reducible refine Ft ?_ _)|(with_reducible refine Fo ?_)));(case side2=>exact HC0_2.out);(case side3=>repeat(first|exact(Fv HR1_2.out (by repeat(first|(with_reducible first|exact HB.out|apply Fe|apply Fb|apply Ff|refine Fd ?_ GE201.out|refine Fd ?_ GE202.out)|exact HB.out)))|(with_reducible refine Fs ?_ _)|(with_reducible refine Ft ?_ _)|(with_reducible refine Fo ?_)));(case side4=>exact HC1_2.out);rintro e w20 ⟨rfl,hb⟩;refine⟨_,rfl,?_⟩;have n0_:=Fa (Fm (g:=gb201) (o:=.cells #[.int .i64 a0_0,.int .i64 a0_1,.slice A0_2 l0_2.length c0_2] 27 (0,0)) (by(with_reducible repeat(first|refine Fi ?_ _|refine Fc ?_|refine Fh ?_ _));exact BK201.out) hb);have n1_:=Fa (Fm (g:=gb202) (o:=.cells #[.int .i64 a1_0,.int .i64 a1_1,.slice A1_2 l1_2.length c1_2] 27 (0,0)) (by(with_reducible repeat(first|refine Fi ?_ _|refine Fc ?_|refine Fh ?_ _));exact BK202.out) hb);have n2_:=Fa (Fq (by repeat(first|(with_reducible first|exact HB.out|apply Fe|apply Fb|apply Ff|refine Fd ?_ GE201.out|refine Fd ?_ GE202.out)|exact HB.out)) hb);clear BK201;clear BK202;clear HB;have BK201:=n0_;have BK202:=n1_;have HB:=n2_;clear n0_ n1_ n2_;(try clear hb);(try clear hb2);(try clear hk);(try clear hi)))
   go_ret2
   exact⟨by first|rfl|(simp [errW_none,errW_some] <;> rfl)|(simp [*,errW_none,errW_some] <;> rfl),by repeat(first|(with_reducible first|exact HB.out|apply Fe|apply Fb|apply Ff|refine Fd ?_ GE201.out|refine Fd ?_ GE202.out)|exact HB.out)⟩
  ·replace c8:=Bool.eq_false_iff.mpr c8
   subst c8
   have H1:(some (0,0))=some (r1,r2):=by rw [if_neg (show ¬ (false=true) by decide)] at H;exact H
   clear H
   have H:=H1
   clear H1
   simp only [Option.some.injEq,Prod.mk.injEq] at H
   obtain⟨rfl,rfl⟩:=H
   go_enter Try.func32,Try.ntmps32
   go_wp2_with (first|((with_reducible refine gate_dst (N:=3) rfl ?_);refine box_event ?hg (N:=3) ?hd (cs:=#[.int .i64 a0_0,.int .i64 a0_1,.slice A0_2 l0_2.length c0_2]) (t:=27) ?hr ?_;(case hd=>rfl);(case hg=>rfl);(case hr=>first|(go_simp;done)|(go_simp;rfl));intro gb201 hg w21 hbox hb;have n0_:=Fa (Fq (by repeat(first|(with_reducible first|exact HB.out|apply Fe|apply Fb|apply Ff)|exact HB.out)) hb);have n1_:=Fa (hbox);have n2_:=Fa ((by rw [hg];exact(Fp (by repeat(first|(with_reducible first|exact HB.out|apply Fe|apply Fb|apply Ff)|exact HB.out))):w.heap.size≤gb201));have n3_:=Fa ((by rw [hg];exact(Fp (by repeat(first|(with_reducible first|exact HB.out|apply Fe|apply Fb|apply Ff)|exact HB.out))):w.heap.size≤gb201));clear HB;have HB:=n0_;have BK201:=n1_;have GW201:=n2_;have GE201:=n3_;clear n0_ n1_ n2_ n3_;clear hb hbox hg)|((with_reducible refine gate_dst (N:=4) rfl ?_);refine box_event ?hg (N:=4) ?hd (cs:=#[.int .i64 a1_0,.int .i64 a1_1,.slice A1_2 l1_2.length c1_2]) (t:=27) ?hr ?_;(case hd=>rfl);(case hg=>rfl);(case hr=>first|(go_simp;done)|(go_simp;rfl));intro gb202 hg w22 hbox hb;have n0_:=Fa (Fm (g:=gb201) (o:=.cells #[.int .i64 a0_0,.int .i64 a0_1,.slice A0_2 l0_2.length c0_2] 27 (0,0)) (by(with_reducible repeat(first|refine Fi ?_ _|refine Fc ?_|refine Fh ?_ _));exact BK201.out) hb);have n1_:=Fa (Fq (by repeat(first|(with_reducible first|exact HB.out|apply Fe|apply Fb|apply Ff|refine Fd ?_ GE201.out)|exact HB.out)) hb);have n2_:=Fa (hbox);have n3_:=Fa ((by rw [hg];exact(Fp (by repeat(first|(with_reducible first|exact HB.out|apply Fe|apply Fb|apply Ff|refine Fd ?_ GE201.out)|exact HB.out))):w.heap.size≤gb202));have n4_:=Fa ((by rw [hg];exact(Fp (by repeat(first|(with_reducible first|exact HB.out|apply Fe|apply Fb|apply Ff|refine Fd ?_ GE201.out)|exact HB.out))):w.heap.size≤gb202));have n5_:=Fa ((by rw [hg];exact Nat.ne_of_lt (blk_lt (g:=gb201) (o:=.cells #[.int .i64 a0_0,.int .i64 a0_1,.slice A0_2 l0_2.length c0_2] 27 (0,0)) (by(with_reducible repeat(first|refine Fi ?_ _|refine Fc ?_|refine Fh ?_ _));exact BK201.out)):gb201≠gb202));have n6_:=Fa ((by rw [hg];exact Nat.ne_of_gt (blk_lt (g:=gb201) (o:=.cells #[.int .i64 a0_0,.int .i64 a0_1,.slice A0_2 l0_2.length c0_2] 27 (0,0)) (by(with_reducible repeat(first|refine Fi ?_ _|refine Fc ?_|refine Fh ?_ _));exact BK201.out)):gb202≠gb201));clear BK201;clear HB;have BK201:=n0_;have HB:=n1_;have BK202:=n2_;have GW202:=n3_;have GE202:=n4_;have NB201_202:=n5_;have NB202_201:=n6_;clear n0_ n1_ n2_ n3_ n4_ n5_ n6_;clear hb hbox hg;have hnb23:=NB201_202.out;have hnc23:=NB202_201.out;have hcz24_0:w22.cell? ⟨gb201,0,none⟩=some (.int .i64 a0_0):=(Fn BK201.out 0).trans rfl;have hcz24_1:w22.cell? ⟨gb201,1,none⟩=some (.int .i64 a0_1):=(Fn BK201.out 1).trans rfl;have hcz24_2:w22.cell? ⟨gb201,2,none⟩=some (.slice A0_2 l0_2.length c0_2):=(Fn BK201.out 2).trans rfl;have hfz24_0:=Fj BK201.out 0;have hfz24_1:=Fj BK201.out 1;have hfz24_2:=Fj BK201.out 2;have hcz25_0:w22.cell? ⟨gb202,0,none⟩=some (.int .i64 a1_0):=(Fn BK202.out 0).trans rfl;have hcz25_1:w22.cell? ⟨gb202,1,none⟩=some (.int .i64 a1_1):=(Fn BK202.out 1).trans rfl;have hcz25_2:w22.cell? ⟨gb202,2,none⟩=some (.slice A1_2 l1_2.length c1_2):=(Fn BK202.out 2).trans rfl;have hfz25_0:=Fj BK202.out 0;have hfz25_1:=Fj BK202.out 1;have hfz25_2:=Fj BK202.out 2)|((with_reducible refine gate_callee (f:=69) rfl ?_);refine goesL_ (some 10) rfl rfl Try.func69 (by kernel_rfl) rfl #[.agg #[.int .i64 a0_0,.int .i64 a0_1,.slice A0_2 l0_2.length c0_2],.agg #[.int .i64 a1_0,.int .i64 a1_1,.slice A1_2 l1_2.length c1_2]] rfl (by(try simp only [List.map_toArray,List.map_cons,List.map_nil]);first|done|rfl|(simp only [List.length_drop,List.length_take];rfl)) ?_;(with_reducible refine(impl_bothOk.calls a0_0 a0_1 _ _ l0_2 a1_0 a1_1 _ _ l1_2 true _ ?side1 ?side2 ?side3 ?side4 A4.out).mono ?_);(case side1=>repeat(first|exact(Fv HR0_2.out HB.out)|(with_reducible refine Fs ?_ _)|(with_reducible refine Ft ?_ _)|(with_reducible refine Fo ?_)));(case side2=>exact HC0_2.out);(case side3=>repeat(first|exact(Fv HR1_2.out HB.out)|(with_reducible refine Fs ?_ _)|(with_reducible refine Ft ?_ _)|(with_reducible refine Fo ?_)));(case side4=>exact HC1_2.out);rintro e w26 ⟨rfl,hb⟩;refine⟨_,rfl,?_⟩;have n0_:=Fa (Fm (g:=gb201) (o:=.cells #[.int .i64 a0_0,.int .i64 a0_1,.slice A0_2 l0_2.length c0_2] 27 (0,0)) (by(with_reducible repeat(first|refine Fi ?_ _|refine Fc ?_|refine Fh ?_ _));exact BK201.out) hb);have n1_:=Fa (Fm (g:=gb202) (o:=.cells #[.int .i64 a1_0,.int .i64 a1_1,.slice A1_2 l1_2.length c1_2] 27 (0,0)) (by(with_reducible repeat(first|refine Fi ?_ _|refine Fc ?_|refine Fh ?_ _));exact BK202.out) hb);have n2_:=Fa (Fq (by repeat(first|(with_reducible first|exact HB.out|apply Fe|apply Fb|apply Ff|refine Fd ?_ GE201.out|refine Fd ?_ GE202.out)|exact HB.out)) hb);clear BK201;clear BK202;clear HB;have BK201:=n0_;have BK202:=n1_;have HB:=n2_;clear n0_ n1_ n2_;(try clear hb);(try clear hb2);(try clear hk);(try clear hi);have hcz27_0:w26.cell? ⟨gb202,0,none⟩=some (.int .i64 a1_0):=(Fn BK202.out 0).trans rfl;have hcz27_1:w26.cell? ⟨gb202,1,none⟩=some (.int .i64 a1_1):=(Fn BK202.out 1).trans rfl;have hcz27_2:w26.cell? ⟨gb202,2,none⟩=some (.slice A1_2 l1_2.length c1_2):=(Fn BK202.out 2).trans rfl;have hfz27_0:=Fj BK202.out 0;have hfz27_1:=Fj BK202.out 1;have hfz27_2:=Fj BK202.out 2)|(go_at_call 70;(with_reducible refine(impl_Picture_blocks.calls a1_0 a1_1 _ _ l1_2 t204 _ ?side1 ?side2 A6.out).mono ?_);(case side1=>repeat(first|exact(Fv HR1_2.out HB.out)|(with_reducible refine Fs ?_ _)|(with_reducible refine Ft ?_ _)|(with_reducible refine Fo ?_)));(case side2=>exact HC1_2.out);rintro e w28 ⟨rfl,hb⟩;have n0_:=Fa (Fm (g:=gb201) (o:=.cells #[.int .i64 a0_0,.int .i64 a0_1,.slice A0_2 l0_2.length c0_2] 27 (0,0)) (by(with_reducible repeat(first|refine Fi ?_ _|refine Fc ?_|refine Fh ?_ _));exact BK201.out) hb);have n1_:=Fa (Fm (g:=gb202) (o:=.cells #[.int .i64 a1_0,.int .i64 a1_1,.slice A1_2 l1_2.length c1_2] 27 (0,0)) (by(with_reducible repeat(first|refine Fi ?_ _|refine Fc ?_|refine Fh ?_ _));exact BK202.out) hb);have n2_:=Fa (Fq (by repeat(first|(with_reducible first|exact HB.out|apply Fe|apply Fb|apply Ff|refine Fd ?_ GE201.out|refine Fd ?_ GE202.out)|exact HB.out)) hb);clear BK201;clear BK202;clear HB;have BK201:=n0_;have BK202:=n1_;have HB:=n2_;clear n0_ n1_ n2_;(try clear hb);(try clear hb2);(try clear hk);(try clear hi))|(go_at_call 49;(with_reducible refine(impl_in.calls a2 0 (wrap64 (t204 - 1)) false _ A7.out).mono ?_);rintro e w' ⟨rfl,⟨nd,rfl⟩⟩))
   go_ret2
   exact⟨by first|rfl|(simp [errW_none,errW_some] <;> rfl)|(simp [*,errW_none,errW_some] <;> rfl),by repeat(first|(with_reducible first|exact HB.out|apply Fe|apply Fb|apply Ff|refine Fd ?_ GE201.out|refine Fd ?_ GE202.out)|exact HB.out)⟩
 ·replace c5:=Bool.eq_false_iff.mpr c5
  subst c5
  have H1:(some (0,0))=some (r1,r2):=by rw [if_neg (show ¬ (false=true) by decide)] at H;exact H
  clear H
  have H:=H1
  clear H1
  simp only [Option.some.injEq,Prod.mk.injEq] at H
  obtain⟨rfl,rfl⟩:=H
  go_enter Try.func32,Try.ntmps32
  go_wp2_with (first|((with_reducible refine gate_dst (N:=3) rfl ?_);refine box_event ?hg (N:=3) ?hd (cs:=#[.int .i64 a0_0,.int .i64 a0_1,.slice A0_2 l0_2.length c0_2]) (t:=27) ?hr ?_;(case hd=>rfl);(case hg=>rfl);(case hr=>first|(go_simp;done)|(go_simp;rfl));intro gb201 hg w29 hbox hb;have n0_:=Fa (Fq (by repeat(first|(with_reducible first|exact HB.out|apply Fe|apply Fb|apply Ff)|exact HB.out)) hb);have n1_:=Fa (hbox);have n2_:=Fa ((by rw [hg];exact(Fp (by repeat(first|(with_reducible first|exact HB.out|apply Fe|apply Fb|apply Ff)|exact HB.out))):w.heap.size≤gb201));have n3_:=Fa ((by rw [hg];exact(Fp (by repeat(first|(with_reducible first|exact HB.out|apply Fe|apply Fb|apply Ff)|exact HB.out))):w.heap.size≤gb201));clear HB;have HB:=n0_;have BK201:=n1_;have GW201:=n2_;have GE201:=n3_;clear n0_ n1_ n2_ n3_;clear hb hbox hg)|((with_reducible refine gate_dst (N:=4) rfl ?_);refine box_event ?hg (N:=4) ?hd (cs:=#[.int .i64 a1_0,.int .i64 a1_1,.slice A1_2 l1_2.length c1_2]) (t:=27) ?hr ?_;(case hd=>rfl);(case hg=>rfl);(case hr=>first|(go_simp;done)|(go_simp;rfl));intro gb202 hg w30 hbox hb;have n0_:=Fa (Fm (g:=gb201) (o:=.cells #[.int .i64 a0_0,.int .i64 a0_1,.slice A0_2 l0_2.length c0_2] 27 (0,0)) (by(with_reducible repeat(first|refine Fi ?_ _|refine Fc ?_|refine Fh ?_ _));exact BK201.out) hb);have n1_:=Fa (Fq (by repeat(first|(with_reducible first|exact HB.out|apply Fe|apply Fb|apply Ff|refine Fd ?_ GE201.out)|exact HB.out)) hb);have n2_:=Fa (hbox);have n3_:=Fa ((by rw [hg];exact(Fp (by repeat(first|(with_reducible first|exact HB.out|apply Fe|apply Fb|apply Ff|refine Fd ?_ GE201.out)|exact HB.out))):w.heap.size≤gb202));have n4_:=Fa ((by rw [hg];exact(Fp (by repeat(first|(with_reducible first|exact HB.out|apply Fe|apply Fb|apply Ff|refine Fd ?_ GE201.out)|exact HB.out))):w.heap.size≤gb202));have n5_:=Fa ((by rw [hg];exact Nat.ne_of_lt (blk_lt (g:=gb201) (o:=.cells #[.int .i64 a0_0,.int .i64 a0_1,.slice A0_2 l0_2.length c0_2] 27 (0,0)) (by(with_reducible repeat(first|refine Fi ?_ _|refine Fc ?_|refine Fh ?_ _));exact BK201.out)):gb201≠gb202));have n6_:=Fa ((by rw [hg];exact Nat.ne_of_gt (blk_lt (g:=gb201) (o:=.cells #[.int .i64 a0_0,.int .i64 a0_1,.slice A0_2 l0_2.length c0_2] 27 (0,0)) (by(with_reducible repeat(first|refine Fi ?_ _|refine Fc ?_|refine Fh ?_ _));exact BK201.out)):gb202≠gb201));clear BK201;clear HB;have BK201:=n0_;have HB:=n1_;have BK202:=n2_;have GW202:=n3_;have GE202:=n4_;have NB201_202:=n5_;have NB202_201:=n6_;clear n0_ n1_ n2_ n3_ n4_ n5_ n6_;clear hb hbox hg;have hnb31:=NB201_202.out;have hnc31:=NB202_201.out;have hcz32_0:w30.cell? ⟨gb201,0,none⟩=some (.int .i64 a0_0):=(Fn BK201.out 0).trans rfl;have hcz32_1:w30.cell? ⟨gb201,1,none⟩=some (.int .i64 a0_1):=(Fn BK201.out 1).trans rfl;have hcz32_2:w30.cell? ⟨gb201,2,none⟩=some (.slice A0_2 l0_2.length c0_2):=(Fn BK201.out 2).trans rfl;have hfz32_0:=Fj BK201.out 0;have hfz32_1:=Fj BK201.out 1;have hfz32_2:=Fj BK201.out 2;have hcz33_0:w30.cell? ⟨gb202,0,none⟩=some (.int .i64 a1_0):=(Fn BK202.out 0).trans rfl;have hcz33_1:w30.cell? ⟨gb202,1,none⟩=some (.int .i64 a1_1):=(Fn BK202.out 1).trans rfl;have hcz33_2:w30.cell? ⟨gb202,2,none⟩=some (.slice A1_2 l1_2.length c1_2):=(Fn BK202.out 2).trans rfl;have hfz33_0:=Fj BK202.out 0;have hfz33_1:=Fj BK202.out 1;have hfz33_2:=Fj BK202.out 2)|((with_reducible refine gate_callee (f:=69) rfl ?_);refine goesL_ (some 10) rfl rfl Try.func69 (by kernel_rfl) rfl #[.agg #[.int .i64 a0_0,.int .i64 a0_1,.slice A0_2 l0_2.length c0_2],.agg #[.int .i64 a1_0,.int .i64 a1_1,.slice A1_2 l1_2.length c1_2]] rfl (by(try simp only [List.map_toArray,List.map_cons,List.map_nil]);first|done|rfl|(simp only [List.length_drop,List.length_take];rfl)) ?_;(with_reducible refine(impl_bothOk.calls a0_0 a0_1 _ _ l0_2 a1_0 a1_1 _ _ l1_2 false _ ?side1 ?side2 ?side3 ?side4 A4.out).mono ?_);(case side1=>repeat(first|exact(Fv HR0_2.out HB.out)|(with_reducible refine Fs ?_ _)|(with_reducible refine Ft ?_ _)|(with_reducible refine Fo ?_)));(case side2=>exact HC0_2.out);(case side3=>repeat(first|exact(Fv HR1_2.out HB.out)|(with_reducible refine Fs ?_ _)|(with_reducible refine Ft ?_ _)|(with_reducible refine Fo ?_)));(case side4=>exact HC1_2.out);rintro e w34 ⟨rfl,hb⟩;refine⟨_,rfl,?_⟩;have n0_:=Fa (Fm (g:=gb201) (o:=.cells #[.int .i64 a0_0,.int .i64 a0_1,.slice A0_2 l0_2.length c0_2] 27 (0,0)) (by(with_reducible repeat(first|refine Fi ?_ _|refine Fc ?_|refine Fh ?_ _));exact BK201.out) hb);have n1_:=Fa (Fm (g:=gb202) (o:=.cells #[.int .i64 a1_0,.int .i64 a1_1,.slice A1_2 l1_2.length c1_2] 27 (0,0)) (by(with_reducible repeat(first|refine Fi ?_ _|refine Fc ?_|refine Fh ?_ _));exact BK202.out) hb);have n2_:=Fa (Fq (by repeat(first|(with_reducible first|exact HB.out|apply Fe|apply Fb|apply Ff|refine Fd ?_ GE201.out|refine Fd ?_ GE202.out)|exact HB.out)) hb);clear BK201;clear BK202;clear HB;have BK201:=n0_;have BK202:=n1_;have HB:=n2_;clear n0_ n1_ n2_;(try clear hb);(try clear hb2);(try clear hk);(try clear hi)))
  go_ret2
  exact⟨by first|rfl|(simp [errW_none,errW_some] <;> rfl)|(simp [*,errW_none,errW_some] <;> rfl),by repeat(first|(with_reducible first|exact HB.out|apply Fe|apply Fb|apply Ff|refine Fd ?_ GE201.out|refine Fd ?_ GE202.out)|exact HB.out)⟩

/-- A state of type 84 at block g of W; what its slices lead to came in by w0. -/
def IsS84 (w0 W : World) (g : Nat) (f0 : List Int) (f1 : Int) (f2 : Int) : Prop := ∃ A0 c0, W.heap[g]? = some (.cells #[.slice A0 f0.length c0, .int .i64 f1, .int .i64 f2] 84 (0, 0)) ∧ w0.heap.size ≤ g ∧ Kd.C (Kd.int .u8) w0 A0 f0.length f0
theorem IsS84.grown {w0 W : World} {g : Nat} {f0 : List Int} {f1 : Int} {f2 : Int} {W1 : World} {row : Option Nat} (h : IsS84 w0 W g f0 f1 f2) (hw : W.grownBy W1 row) (hne : some g ≠ row) : IsS84 w0 W1 g f0 f1 f2 := by
 obtain⟨A0,c0,hb,hg,hr0⟩:=h
 exact⟨A0,c0,blk_grown hb hw hne,hg,hr0⟩
theorem IsS84.own_neN {w0 W : World} {g : Nat} {f0 : List Int} {f1 : Int} {f2 : Int} {α : Type} {d : Kd α} {e : Nat} {base : Nat} {ok : Nat → Prop} {v : Value} {xs : List α} (h : IsS84 w0 W g f0 f1 f2) (ho : Kd.N d e W base ok v xs) (ht : e ≠ 84) : some g ≠ v.ownBlock := by
 obtain⟨A0,c0,hb,hg,hr0⟩:=h
 exact Kd.N_ne ho hb ht
theorem IsS84.fresh {w0 W : World} {g : Nat} {f0 : List Int} {f1 : Int} {f2 : Int} (h : IsS84 w0 W g f0 f1 f2) : ∀ k, W.heap.size ≤ k → k ≠ g := by
 obtain⟨A0,c0,hb,hg,hr0⟩:=h
 exact Kd.freshB hb
theorem IsS84.kept {w0 W : World} {g : Nat} {f0 : List Int} {f1 : Int} {f2 : Int} {W1 : World} {S : Nat → Prop} (h : IsS84 w0 W g f0 f1 f2) (hk : Kept W W1 S) (hne : ¬ S g) : IsS84 w0 W1 g f0 f1 f2 := by
 obtain⟨A0,c0,hb,hg,hr0⟩:=h
 exact⟨A0,c0,blk_kept hb hk hne,hg,hr0⟩
theorem IsS84.below {w0 W : World} {g : Nat} {f0 : List Int} {f1 : Int} {f2 : Int} {W1 : World} (h : IsS84 w0 W g f0 f1 f2) (hw : Below W.heap.size W W1) : IsS84 w0 W1 g f0 f1 f2 := h.grown (grown_of_below hw none) (by simp)
theorem IsS84.alloc {w0 W : World} {g : Nat} {f0 : List Int} {f1 : Int} {f2 : Int} (h : IsS84 w0 W g f0 f1 f2) (o : Obj) : IsS84 w0 (W.alloc o) g f0 f1 f2 := h.below (Fe (Below.refl _ _) o)
theorem IsS84.drewN {w0 W : World} {g : Nat} {f0 : List Int} {f1 : Int} {f2 : Int} (h : IsS84 w0 W g f0 f1 f2) (m : Nat) : IsS84 w0 (W.drewN m) g f0 f1 f2 := h
theorem IsS84.drew {w0 W : World} {g : Nat} {f0 : List Int} {f1 : Int} {f2 : Int} (h : IsS84 w0 W g f0 f1 f2) : IsS84 w0 W.drew g f0 f1 f2 := h
theorem IsS84.at_ {w0 W : World} {g : Nat} {f0 : List Int} {f1 : Int} {f2 : Int} {w' : World} {m : Nat} (hq : W.drewN m = w') (h : IsS84 w0 W g f0 f1 f2) : IsS84 w0 w' g f0 f1 f2 := by subst hq; exact IsS84.drewN h m
theorem IsS84.apart {w0 W : World} {g : Nat} {f0 : List Int} {f1 : Int} {f2 : Int} {α : Type} {d : Kd α} {e : Nat} {base : Nat} {ok : Nat → Prop} {v : Value} {xs : List α} (h : IsS84 w0 W g f0 f1 f2) (ho : d.R e W base ok v xs) (ht : ∀ q, q ∈ e :: d.E → q ≠ 84) : d.R e W base (fun k => ok k ∧ k ≠ g) v xs := by
 obtain⟨A0,c0,hb,hg,hr0⟩:=h
 exact Kd.R_types ho hb ht
theorem IsS84.own_ne {w0 W : World} {g : Nat} {f0 : List Int} {f1 : Int} {f2 : Int} {α : Type} {d : Kd α} {e : Nat} {base : Nat} {ok : Nat → Prop} {v : Value} {xs : List α} (h : IsS84 w0 W g f0 f1 f2) (ho : d.R e W base ok v xs) (ht : e ≠ 84) : some g ≠ v.ownBlock := by
 obtain⟨A0,c0,hb,hg,hr0⟩:=h
 exact Kd.R_ne ho hb ht
theorem IsS84.apartQ {w0 W : World} {g : Nat} {f0 : List Int} {f1 : Int} {f2 : Int} {α : Type} {d : Kd α} {e : Nat} {base : Nat} {ok : Nat → Prop} {v : Value} {xs : List α} (h : IsS84 w0 W g f0 f1 f2) (ho : d.Q e W base ok v xs) (ht : ∀ q, q ∈ e :: d.E → q ≠ 84) : d.Q e W base (fun k => ok k ∧ k ≠ g) v xs := by
 obtain⟨A0,c0,hb,hg,hr0⟩:=h
 exact Kd.Q_types ho hb ht
theorem IsS84.own_neQ {w0 W : World} {g : Nat} {f0 : List Int} {f1 : Int} {f2 : Int} {α : Type} {d : Kd α} {e : Nat} {base : Nat} {ok : Nat → Prop} {v : Value} {xs : List α} (h : IsS84 w0 W g f0 f1 f2) (ho : d.Q e W base ok v xs) (ht : e ≠ 84) : some g ≠ v.ownBlock := by
 obtain⟨A0,c0,hb,hg,hr0⟩:=h
 exact Kd.Q_ne ho hb ht
theorem IsS84.apartS {w0 W : World} {g : Nat} {f0 : List Int} {f1 : Int} {f2 : Int} {α : Type} {d : Kd α} {e : Nat} {base : Nat} {ok : Nat → Prop} {v : Value} {xs : List α} (h : IsS84 w0 W g f0 f1 f2) (ho : d.S e W base ok v xs) (ht : ∀ q, q ∈ e :: d.E → q ≠ 84) : d.S e W base (fun k => ok k ∧ k ≠ g) v xs := by
 obtain⟨A0,c0,hb,hg,hr0⟩:=h
 exact Kd.S_types ho hb ht
theorem IsS84.own_neS {w0 W : World} {g : Nat} {f0 : List Int} {f1 : Int} {f2 : Int} {α : Type} {d : Kd α} {e : Nat} {base : Nat} {ok : Nat → Prop} {v : Value} {xs : List α} (h : IsS84 w0 W g f0 f1 f2) (ho : d.S e W base ok v xs) (ht : e ≠ 84) : some g ≠ v.ownBlock := by
 obtain⟨A0,c0,hb,hg,hr0⟩:=h
 exact Kd.S_ne ho hb ht
theorem IsS84.lt {w0 W : World} {g : Nat} {f0 : List Int} {f1 : Int} {f2 : Int} (h : IsS84 w0 W g f0 f1 f2) : g < W.heap.size := by
 obtain⟨A0,c0,hb,hg,hr0⟩:=h
 exact blk_lt hb
theorem IsS84.ge {w0 W : World} {g : Nat} {f0 : List Int} {f1 : Int} {f2 : Int} (h : IsS84 w0 W g f0 f1 f2) : w0.heap.size ≤ g := by
 obtain⟨A0,c0,hb,hg,hr0⟩:=h
 exact hg
theorem IsS84.ne_blk {w0 W : World} {g : Nat} {f0 : List Int} {f1 : Int} {f2 : Int} {a : Nat} {cs : Array Value} {t : TypeId} {fr : Nat × Nat} (h : IsS84 w0 W g f0 f1 f2) (hb2 : W.heap[a]? = some (.cells cs t fr)) (ht : t ≠ 84) : g ≠ a := by
 obtain⟨A0,c0,hb,hg,hr0⟩:=h
 rintro rfl
 rw [hb] at hb2
 injection hb2 with hb2
 injection hb2 with _ ht2
 exact ht ht2.symm
theorem IsS84.far {w0 W : World} {g : Nat} {f0 : List Int} {f1 : Int} {f2 : Int} {p : Addr} (h : IsS84 w0 W g f0 f1 f2) (hne : g ≠ p.block) (u : Value) : IsS84 w0 (W.setCell p u) g f0 f1 f2 := by
 obtain⟨A0,c0,hb,hg,hr0⟩:=h
 exact⟨A0,c0,blk_far hb hne u,hg,hr0⟩
theorem cellS84_0 {W : World} {g : Nat} {A0 : Option Addr} {c0 : Nat} {f0 : List Int} {f1 : Int} {f2 : Int} (h : W.heap[g]? = some (.cells #[.slice A0 f0.length c0, .int .i64 f1, .int .i64 f2] 84 (0, 0))) : W.cell? ⟨g, 0, none⟩ = some (.slice A0 f0.length c0) := (Fn h 0).trans rfl
theorem cellS84_1 {W : World} {g : Nat} {A0 : Option Addr} {c0 : Nat} {f0 : List Int} {f1 : Int} {f2 : Int} (h : W.heap[g]? = some (.cells #[.slice A0 f0.length c0, .int .i64 f1, .int .i64 f2] 84 (0, 0))) : W.cell? ⟨g, 1, none⟩ = some (.int .i64 f1) := (Fn h 1).trans rfl
theorem IsS84.set_1 {w0 W : World} {g : Nat} {f0 : List Int} {f1 : Int} {f2 : Int} (h : IsS84 w0 W g f0 f1 f2) (x : Int) : IsS84 w0 (W.setCell ⟨g, 1, none⟩ (.int .i64 x)) g f0 x f2 := by
 obtain⟨A0,c0,hb,hg,hr0⟩:=h
 exact⟨A0,c0,by simpa using blk_set hb 1 (.int .i64 x),hg,hr0⟩
theorem cellS84_2 {W : World} {g : Nat} {A0 : Option Addr} {c0 : Nat} {f0 : List Int} {f1 : Int} {f2 : Int} (h : W.heap[g]? = some (.cells #[.slice A0 f0.length c0, .int .i64 f1, .int .i64 f2] 84 (0, 0))) : W.cell? ⟨g, 2, none⟩ = some (.int .i64 f2) := (Fn h 2).trans rfl
theorem IsS84.set_2 {w0 W : World} {g : Nat} {f0 : List Int} {f1 : Int} {f2 : Int} (h : IsS84 w0 W g f0 f1 f2) (x : Int) : IsS84 w0 (W.setCell ⟨g, 2, none⟩ (.int .i64 x)) g f0 f1 x := by
 obtain⟨A0,c0,hb,hg,hr0⟩:=h
 exact⟨A0,c0,by simpa using blk_set hb 2 (.int .i64 x),hg,hr0⟩
theorem IsS84.new (w0 W : World) (A0 : Option Addr) (c0 : Nat) (f0 : List Int) (f1 : Int) (f2 : Int) (hB : Below w0.heap.size w0 W) (hr0 : Kd.C (Kd.int .u8) w0 A0 f0.length f0) : IsS84 w0 (W.alloc (.cells #[.slice A0 f0.length c0, .int .i64 f1, .int .i64 f2] 84)) W.heap.size f0 f1 f2 := ⟨A0, c0, by simpa using heap_alloc_new W _, hB.size, hr0⟩

/-! ### spec_l1New: function 62 -/
def spec_l1New.l0 : Nat → List Int → Int → Int → Option (List Int × Int × Int)
 | 0, _, _, _ => none
 | k + 1, x0, x3, x4 => if x4 < (x0.length : Int) then (if 0 ≤ x4 then (spec_l1New.l0 k x0 (Go.bits .and .i64 (wrap64 ((wrap64 ((wrap64 (x3 * 137)) + (wrap64 (rd x0 x4)))) + 11)) 1073741823) (wrap64 (x4 + 1))) else (none)) else (some (x0, 0, x3))
def spec_l1New.f (k : Nat) (l0 : List Int) : Option (List Int × Int × Int) := spec_l1New.l0 k l0 (wrap64 (60293 + (l0.length : Int))) 0
theorem spec_l1New.mono_l : ∀ k, (∀ y0 y1 y2, LeO (spec_l1New.l0 k y0 y1 y2) (spec_l1New.l0 (k + 1) y0 y1 y2))
 | 0 => fun _ _ _ r h => by simp [spec_l1New.l0] at h
 | k + 1 => by
  have ih0:=spec_l1New.mono_l k
  ·intro y0 y1 y2
   unfold spec_l1New.l0
   repeat' first
   | (with_reducible exact ih0 _ _ _)
   | (with_reducible exact LeO.refl _)
   | (with_reducible exact LeO.none _)
   | (with_reducible refine LeO.ite ?_ ?_)
   | (with_reducible refine LeO.bind ?_ (fun _ => ?_))
   | exact ih0 _ _ _
   | exact LeO.none _
   | refine LeO.ite ?_ ?_
   | refine LeO.bind ?_ (fun _ => ?_)
theorem spec_l1New.mono : ∀ a0 k, LeO (spec_l1New.f k a0) (spec_l1New.f (k + 1) a0) := by
 intro a0 k
 have ih0:=spec_l1New.mono_l k
 unfold spec_l1New.f
 repeat' first
   | (with_reducible exact ih0 _ _ _)
   | (with_reducible exact LeO.refl _)
   | (with_reducible exact LeO.none _)
   | (with_reducible refine LeO.ite ?_ ?_)
   | (with_reducible refine LeO.bind ?_ (fun _ => ?_))
   | exact ih0 _ _ _
   | exact LeO.none _
   | refine LeO.ite ?_ ?_
   | refine LeO.bind ?_ (fun _ => ?_)
set_option maxHeartbeats 8000000 in
set_option maxRecDepth 100000 in
theorem spec_l1New.calls (k : Nat) (A0 : Option Addr) (c0 : Nat) (l0 : List Int) (r1 : List Int) (r2 : Int) (r3 : Int) (w0 w : World) (hB : Below w0.heap.size w0 w) (hr0 : Kd.C (Kd.int .u8) w0 A0 l0.length l0) (hc0 : l0.length ≤ c0) (h : spec_l1New.f k l0 = some (r1, r2, r3)) :
  Calls Try.prog 62 #[.slice A0 l0.length c0] w fun e w'=>∃ g_:Nat,e=.returned (.pointer (some ⟨g_,0,none⟩))∧IsS84 w0 w' g_ r1 r2 r3∧Below w0.heap.size w0 w'∧Below w.heap.size w w':=by
 have hu84:=Try.underlying84
 have HR0:=Fa hr0
 have HC0:=Fa hc0
 clear hr0 hc0
 have HBW:=Fa (Below.refl w.heap.size w)
 have HW0:=Fa hB.size
 have HB:=Fa hB
 clear hB
 have H:(spec_l1New.l0 k l0 (wrap64 (60293+(l0.length:Int))) 0)=some (r1,r2,r3):=h
 clear h
 have H':=Fa H
 clear H
 go_enter Try.func62,Try.ntmps62
 go_wp2
 go_loopg [3,4] k (fun kq v3 v4 w'=>∃ (x3_1:Int) (qc:Int),v3=.int .i64 x3_1∧v4=.int .i64 qc∧Aside0 (spec_l1New.l0 kq l0 x3_1 qc=some (r1,r2,r3))∧Aside0 (kq≤k)∧Aside0 (Below w0.heap.size w0 w')∧Aside0 (Below w.heap.size w w'))
 case atStart=>exact⟨(wrap64 (60293+(l0.length:Int))),(0),(by first|rfl|(simp;done)|(simp [*];done)),(by first|rfl|(simp;done)|(simp [*];done)),H',⟨Nat.le_refl _⟩,⟨by repeat(first|(with_reducible first|exact HB.out|apply Fe|apply Fb|apply Ff)|exact HB.out)⟩,⟨by repeat(first|(with_reducible first|exact HBW.out|apply Fe|apply Fb|apply Ff)|exact HBW.out)⟩⟩
 case round=>
  clear H'
  obtain⟨x3_1,qc,rfl,rfl,HA,HK1,HB,HBW⟩:=hrel
  cases gk with
  | zero => exact absurd HA.out (by simp [spec_l1New.l0])
  | succ k1 =>
   have H:=HA.out
   clear HA
   simp only [spec_l1New.l0] at H
   by_cases c2:qc < (l0.length:Int)
   ·rw [if_pos c2] at H
    have c2b0:decide (qc < (l0.length:Int))=true:=decide_eq_true c2
    clear c2
    by_cases c3:0≤qc
    ·rw [if_pos c3] at H
     have c3b0:decide (0≤qc)=true:=decide_eq_true c3
     clear c3
     have H':=Fa H
     clear H
     have p208:0≤(qc:Int):=of_decide_eq_true (by first|(with_reducible assumption)|assumption)
     have q208:qc < (l0.length:Int):=of_decide_eq_true (by first|(with_reducible assumption)|assumption)
     obtain⟨ad208,e208,hx208_0⟩:=Kd.at_int HR0.out qc p208 q208
     cases e208
     replace hx208_0:=pw_cell_below HB.out hx208_0
     replace p208:=eq_true p208
     replace q208:=eq_true q208
     go_wp2
     go_roundg k1
     case measure=>have:=HK1.out;omega
     case rel=>exact⟨(Go.bits .and .i64 (wrap64 ((wrap64 ((wrap64 (x3_1*137))+(wrap64 (rd l0 qc))))+11)) 1073741823),(wrap64 (qc+1)),(by first|rfl|(simp;done)|(simp [*];done)),(by first|rfl|(simp;done)|(simp [*];done)),H',⟨by have:=HK1.out;omega⟩,⟨by repeat(first|(with_reducible first|exact HB.out|apply Fe|apply Fb|apply Ff)|exact HB.out)⟩,⟨by repeat(first|(with_reducible first|exact HBW.out|apply Fe|apply Fb|apply Ff)|exact HBW.out)⟩⟩
    ·rw [if_neg c3] at H
     exact absurd H (by simp)
   ·rw [if_neg c2] at H
    have c2b0:decide (qc < (l0.length:Int))=false:=decide_eq_false c2
    clear c2
    simp only [Option.some.injEq,Prod.mk.injEq] at H
    obtain⟨rfl,rfl,rfl⟩:=H
    go_wp2_with (first|((with_reducible refine gate_dst (N:=27) rfl ?_);refine box_event ?hg (N:=27) ?hd (cs:=#[.slice A0 l0.length c0,.int .i64 0,.int .i64 x3_1]) (t:=84) ?hr ?_;(case hd=>rfl);(case hg=>rfl);(case hr=>first|(go_simp;done)|(go_simp;rfl));intro gb209 hg w4 hbox hb;have n0_:=Fa (Fq HBW.out hb);have n1_:=Fa (Fq (by repeat(first|(with_reducible first|exact HB.out|apply Fe|apply Fb|apply Ff)|exact HB.out)) hb);have n2_:=Fa (hbox);have n3_:=Fa ((by rw [hg];exact(Fp (by repeat(first|(with_reducible first|exact HBW.out|apply Fe|apply Fb|apply Ff)|exact HBW.out))):w.heap.size≤gb209));have n4_:=Fa ((Nat.le_trans HW0.out (by rw [hg];exact(Fp (by repeat(first|(with_reducible first|exact HBW.out|apply Fe|apply Fb|apply Ff)|exact HBW.out))):w.heap.size≤gb209):w0.heap.size≤gb209));clear HBW;clear HB;have HBW:=n0_;have HB:=n1_;have BK209:=n2_;have GW209:=n3_;have GE209:=n4_;clear n0_ n1_ n2_ n3_ n4_;clear hb hbox hg))
    go_ret
    exact⟨_,rfl,(show IsS84 w0 _ gb209 l0 0 x3_1 from⟨_,_,by(with_reducible repeat(first|refine Fi ?_ _|refine Fc ?_|refine Fh ?_ _));exact BK209.out,GE209.out,HR0.out⟩),by repeat(first|(with_reducible first|exact HB.out|apply Fe|apply Fb|apply Ff|refine Fd ?_ GE209.out)|exact HB.out),by repeat(first|(with_reducible first|exact HBW.out|apply Fe|apply Fb|apply Ff|refine Fd ?_ GW209.out)|exact HBW.out)⟩

/-! ### spec_l1Byte: function 82 -/
def spec_l1Byte.f (s0_0 : List Int) (s0_1 : Int) (s0_2 : Int) : Option (Int × Int × Int) := if s0_1 < (s0_0.length : Int) then (if 0 ≤ s0_1 then (some (Go.bits .and .i64 (wrap64 ((Go.bits .and .i64 (Go.bits .xor .i64 ((wrap64 ((wrap64 (s0_2 * 6364136223846793005)) + 1442695040888963407)) / 8589934592) ((wrap64 ((wrap64 (s0_2 * 6364136223846793005)) + 1442695040888963407)) / 35184372088832)) 255) + (wrap64 (rd s0_0 s0_1)))) 255, wrap64 (s0_1 + 1), wrap64 ((wrap64 (s0_2 * 6364136223846793005)) + 1442695040888963407))) else (none)) else (some (Go.bits .and .i64 (Go.bits .xor .i64 ((wrap64 ((wrap64 (s0_2 * 6364136223846793005)) + 1442695040888963407)) / 8589934592) ((wrap64 ((wrap64 (s0_2 * 6364136223846793005)) + 1442695040888963407)) / 35184372088832)) 255, s0_1, wrap64 ((wrap64 (s0_2 * 6364136223846793005)) + 1442695040888963407)))
set_option maxHeartbeats 8000000 in
set_option maxRecDepth 100000 in
theorem spec_l1Byte.calls (g : Nat) (s0_0 : List Int) (s0_1 : Int) (s0_2 : Int) (r1 : Int) (r2 : Int) (r3 : Int) (w0 w : World) (hI : IsS84 w0 w g s0_0 s0_1 s0_2) (hB : Below w0.heap.size w0 w) (h : spec_l1Byte.f s0_0 s0_1 s0_2 = some (r1, r2, r3)) :
  Calls Try.prog 82 #[.pointer (some ⟨g,0,none⟩)] w fun e w'=>e=.returned (.int .i64 r1)∧IsS84 w0 w' g s0_0 r2 r3∧Below w0.heap.size w0 w'∧KeepBut w w' g none:=by
 have qa:=Fa hI
 have HK:=Fa (KeepBut.refl w g none)
 have HL:=Fa hB.size
 clear hI
 have HW0:=Fa hB.size
 have HB:=Fa hB
 clear hB
 have H:(if s0_1 < (s0_0.length:Int) then (if 0≤s0_1 then (some (Go.bits .and .i64 (wrap64 ((Go.bits .and .i64 (Go.bits .xor .i64 ((wrap64 ((wrap64 (s0_2*6364136223846793005))+1442695040888963407)) / 8589934592) ((wrap64 ((wrap64 (s0_2*6364136223846793005))+1442695040888963407)) / 35184372088832)) 255)+(wrap64 (rd s0_0 s0_1)))) 255,wrap64 (s0_1+1),wrap64 ((wrap64 (s0_2*6364136223846793005))+1442695040888963407))) else (none)) else (some (Go.bits .and .i64 (Go.bits .xor .i64 ((wrap64 ((wrap64 (s0_2*6364136223846793005))+1442695040888963407)) / 8589934592) ((wrap64 ((wrap64 (s0_2*6364136223846793005))+1442695040888963407)) / 35184372088832)) 255,s0_1,wrap64 ((wrap64 (s0_2*6364136223846793005))+1442695040888963407))))=some (r1,r2,r3):=h
 clear h
 by_cases c2:s0_1 < (s0_0.length:Int)
 ·rw [if_pos c2] at H
  have c2b0:decide (s0_1 < (s0_0.length:Int))=true:=decide_eq_true c2
  clear c2
  by_cases c3:0≤s0_1
  ·rw [if_pos c3] at H
   have c3b0:decide (0≤s0_1)=true:=decide_eq_true c3
   clear c3
   simp only [Option.some.injEq,Prod.mk.injEq] at H
   obtain⟨rfl,rfl,rfl⟩:=H
   obtain⟨ASz4_0,cSz4_0,HGz4,hgz4,HSz4_0⟩:=qa.out
   have hcz4_0:=cellS84_0 HGz4
   have hcz4_1:=cellS84_1 HGz4
   have hcz4_2:=cellS84_2 HGz4
   have hfz4_1:=Fj HGz4 1
   have hfz4_2:=Fj HGz4 2
   clear HGz4 hgz4
   have p210:0≤(s0_1:Int):=of_decide_eq_true (by first|(with_reducible assumption)|assumption)
   have q210:s0_1 < (s0_0.length:Int):=of_decide_eq_true (by first|(with_reducible assumption)|assumption)
   obtain⟨ad210,e210,qb⟩:=Kd.at_int HSz4_0 s0_1 p210 q210
   cases e210
   have qd:ad210.block≠g:=Nat.ne_of_lt (Nat.lt_of_lt_of_le (by have:=World.block_lt_of_cell? _ _ qb;first|rwa [add_block] at this|exact this) (IsS84.ge qa.out))
   replace qb:=pw_cell_below HB.out qb
   replace qb:=(cell_far (p:=⟨g,2,none⟩) (by first|(rw [add_block];exact qd)|(show(Addr.add _ _).block≠_;rw [add_block];exact qd)|exact qd) (.int .i64 (wrap64 ((wrap64 (s0_2*6364136223846793005))+1442695040888963407)))).trans qb
   (try have hy210_0:=fun (n_:Nat)=>(show(((w.drewN n_).setCell ⟨g,2,none⟩ (.int .i64 (wrap64 ((wrap64 (s0_2*6364136223846793005))+1442695040888963407))))).cell? _=some _ from qb))
   clear qd
   replace p210:=eq_true p210
   replace q210:=eq_true q210
   go_enter Try.func82,Try.ntmps82
   go_wp2
   repeat(go_quiet (fail);try go_wp2)
   go_ret
   exact⟨by first|rfl|(simp [errW_none,errW_some] <;> rfl)|(simp [*,errW_none,errW_some] <;> rfl),by repeat(first|(with_reducible first|exact qa.out|apply IsS84.alloc|apply IsS84.drewN|apply IsS84.drew|apply IsS84.set_1|apply IsS84.set_2)|exact qa.out),by repeat(first|(with_reducible first|exact HB.out|apply Fe|apply Fb|apply Ff|refine Fd ?_ (IsS84.ge qa.out))|exact HB.out),by repeat(first|(with_reducible first|exact HK.out|apply Fw|apply keep_drewN|apply keep_drew|apply keep_alloc)|exact HK.out)⟩
  ·rw [if_neg c3] at H
   exact absurd H (by simp)
 ·rw [if_neg c2] at H
  have c2b0:decide (s0_1 < (s0_0.length:Int))=false:=decide_eq_false c2
  clear c2
  simp only [Option.some.injEq,Prod.mk.injEq] at H
  obtain⟨rfl,rfl,rfl⟩:=H
  obtain⟨ASz5_0,cSz5_0,HGz5,hgz5,HSz5_0⟩:=qa.out
  have hcz5_0:=cellS84_0 HGz5
  have hcz5_1:=cellS84_1 HGz5
  have hcz5_2:=cellS84_2 HGz5
  have hfz5_1:=Fj HGz5 1
  have hfz5_2:=Fj HGz5 2
  clear HGz5 hgz5
  go_enter Try.func82,Try.ntmps82
  go_wp2
  repeat(go_quiet (fail);try go_wp2)
  go_ret
  exact⟨by first|rfl|(simp [errW_none,errW_some] <;> rfl)|(simp [*,errW_none,errW_some] <;> rfl),by repeat(first|(with_reducible first|exact qa.out|apply IsS84.alloc|apply IsS84.drewN|apply IsS84.drew|apply IsS84.set_1|apply IsS84.set_2)|exact qa.out),by repeat(first|(with_reducible first|exact HB.out|apply Fe|apply Fb|apply Ff|refine Fd ?_ (IsS84.ge qa.out))|exact HB.out),by repeat(first|(with_reducible first|exact HK.out|apply Fw|apply keep_drewN|apply keep_drew|apply keep_alloc)|exact HK.out)⟩

/-! ### spec_l1Below: function 65 -/
def spec_l1Below.f (s0_0 : List Int) (s0_1 : Int) (s0_2 : Int) (a1 : Int) : Option (Int × Int × Int) := if a1 ≤ 0 then (some (0, s0_1, s0_2)) else (if a1 ≤ 256 then ((spec_l1Byte.f s0_0 s0_1 s0_2).bind fun bt211 => (if a1 = 0 then (none) else (some (Int.tmod bt211.1 a1, bt211.2.1, bt211.2.2)))) else ((spec_l1Byte.f s0_0 s0_1 s0_2).bind fun bt214 => ((spec_l1Byte.f s0_0 bt214.2.1 bt214.2.2).bind fun bt217 => ((spec_l1Byte.f s0_0 bt217.2.1 bt217.2.2).bind fun bt220 => ((spec_l1Byte.f s0_0 bt220.2.1 bt220.2.2).bind fun bt223 => (if a1 = 0 then (none) else (some (Int.tmod (wrap64 ((wrap64 ((wrap64 ((wrap64 (bt214.1 * 16777216)) + (wrap64 (bt217.1 * 65536)))) + (wrap64 (bt220.1 * 256)))) + bt223.1)) a1, bt223.2.1, bt223.2.2))))))))
set_option maxHeartbeats 8000000 in
set_option maxRecDepth 100000 in
theorem spec_l1Below.calls (g : Nat) (s0_0 : List Int) (s0_1 : Int) (s0_2 : Int) (a1 : Int) (r1 : Int) (r2 : Int) (r3 : Int) (w0 w : World) (hI : IsS84 w0 w g s0_0 s0_1 s0_2) (hB : Below w0.heap.size w0 w) (h : spec_l1Below.f s0_0 s0_1 s0_2 a1 = some (r1, r2, r3)) :
  Calls Try.prog 65 #[.pointer (some ⟨g,0,none⟩),.int .i64 a1] w fun e w'=>e=.returned (.int .i64 r1)∧IsS84 w0 w' g s0_0 r2 r3∧Below w0.heap.size w0 w'∧KeepBut w w' g none:=by
 have qa:=Fa hI
 have HK:=Fa (KeepBut.refl w g none)
 have HL:=Fa hB.size
 clear hI
 have HW0:=Fa hB.size
 have HB:=Fa hB
 clear hB
 have H:(if a1≤0 then (some (0,s0_1,s0_2)) else (if a1≤256 then ((spec_l1Byte.f s0_0 s0_1 s0_2).bind fun bt211=>(if a1=0 then (none) else (some (Int.tmod bt211.1 a1,bt211.2.1,bt211.2.2)))) else ((spec_l1Byte.f s0_0 s0_1 s0_2).bind fun bt214=>((spec_l1Byte.f s0_0 bt214.2.1 bt214.2.2).bind fun bt217=>((spec_l1Byte.f s0_0 bt217.2.1 bt217.2.2).bind fun bt220=>((spec_l1Byte.f s0_0 bt220.2.1 bt220.2.2).bind fun bt223=>(if a1=0 then (none) else (some (Int.tmod (wrap64 ((wrap64 ((wrap64 ((wrap64 (bt214.1*16777216))+(wrap64 (bt217.1*65536))))+(wrap64 (bt220.1*256))))+bt223.1)) a1,bt223.2.1,bt223.2.2)))))))))=some (r1,r2,r3):=h
 clear h
 by_cases c3:a1≤0
 ·rw [if_pos c3] at H
  have c3b0:decide (a1≤0)=true:=decide_eq_true c3
  clear c3
  simp only [Option.some.injEq,Prod.mk.injEq] at H
  obtain⟨rfl,rfl,rfl⟩:=H
  go_enter Try.func65,Try.ntmps65
  go_wp2
  go_ret
  exact⟨by first|rfl|(simp [errW_none,errW_some] <;> rfl)|(simp [*,errW_none,errW_some] <;> rfl),by repeat(first|(with_reducible first|exact qa.out|apply IsS84.alloc|apply IsS84.drewN|apply IsS84.drew|apply IsS84.set_1|apply IsS84.set_2)|exact qa.out),by repeat(first|(with_reducible first|exact HB.out|apply Fe|apply Fb|apply Ff|refine Fd ?_ (IsS84.ge qa.out))|exact HB.out),by repeat(first|(with_reducible first|exact HK.out|apply Fw|apply keep_drewN|apply keep_drew|apply keep_alloc)|exact HK.out)⟩
 ·rw [if_neg c3] at H
  have c3b0:decide (a1≤0)=false:=decide_eq_false c3
  clear c3
  by_cases c4:a1≤256
  ·rw [if_pos c4] at H
   have c4b0:decide (a1≤256)=true:=decide_eq_true c4
   clear c4
   replace H:=Option.bind_eq_some_iff.mp H
   obtain⟨⟨t211,t212,t213⟩,A50,H⟩:=H
   replace H:(if a1=0 then (none) else (some (Int.tmod t211 a1,t212,t213)))=some (r1,r2,r3):=H
   have A5:=Fa A50
   clear A50
   by_cases c6:a1=0
   ·rw [if_pos c6] at H
    exact absurd H (by simp)
   ·rw [if_neg c6] at H
    have c6b0:(a1 == 0)=false:=beq_eq_false_iff_ne.mpr c6
    have c6b1:(a1 != 0)=true:=bne_iff_ne.mpr c6
    simp only [Option.some.injEq,Prod.mk.injEq] at H
    obtain⟨rfl,rfl,rfl⟩:=H
    go_enter Try.func65,Try.ntmps65
    go_wp2_with (first|((with_reducible refine gate_callee (f:=82) rfl ?_);refine goesL_ (some 14) rfl rfl Try.func82 (by kernel_rfl) rfl #[.pointer (some ⟨g,0,none⟩)] rfl (by(try simp only [List.map_toArray,List.map_cons,List.map_nil]);first|done|rfl|(simp only [List.length_drop,List.length_take];rfl)) ?_;(with_reducible refine(spec_l1Byte.calls g s0_0 s0_1 s0_2 t211 t212 t213 w0 _ ?side1 ?side2 A5.out).mono ?_);(case side1=>repeat(first|(with_reducible first|exact qa.out|apply IsS84.alloc|apply IsS84.drewN|apply IsS84.drew|apply IsS84.set_1|apply IsS84.set_2)|exact qa.out));(case side2=>repeat(first|(with_reducible first|exact HB.out|apply Fe|apply Fb|apply Ff|refine Fd ?_ (IsS84.ge qa.out))|exact HB.out));rintro e w7 ⟨rfl,hi,hb,hk⟩;refine⟨_,rfl,?_⟩;have n0_:=Fa (KeepBut.trans (by repeat(first|(with_reducible first|exact HK.out|apply Fw|apply keep_drewN|apply keep_drew|apply keep_alloc)|exact HK.out)) hk (.inl rfl));have n1_:=Fa (hb);have n2_:=Fa (hi);clear HK;clear HB;clear qa;have HK:=n0_;have HB:=n1_;have qa:=n2_;clear n0_ n1_ n2_;(try clear hb);(try clear hb2);(try clear hk);(try clear hi)))
    go_ret
    exact⟨by first|rfl|(simp [errW_none,errW_some] <;> rfl)|(simp [*,errW_none,errW_some] <;> rfl),by repeat(first|(with_reducible first|exact qa.out|apply IsS84.alloc|apply IsS84.drewN|apply IsS84.drew|apply IsS84.set_1|apply IsS84.set_2)|exact qa.out),by repeat(first|(with_reducible first|exact HB.out|apply Fe|apply Fb|apply Ff|refine Fd ?_ (IsS84.ge qa.out))|exact HB.out),by repeat(first|(with_reducible first|exact HK.out|apply Fw|apply keep_drewN|apply keep_drew|apply keep_alloc)|exact HK.out)⟩
  ·rw [if_neg c4] at H
   have c4b0:decide (a1≤256)=false:=decide_eq_false c4
   clear c4
   replace H:=Option.bind_eq_some_iff.mp H
   obtain⟨⟨t214,t215,t216⟩,A80,H⟩:=H
   replace H:((spec_l1Byte.f s0_0 t215 t216).bind fun bt217=>((spec_l1Byte.f s0_0 bt217.2.1 bt217.2.2).bind fun bt220=>((spec_l1Byte.f s0_0 bt220.2.1 bt220.2.2).bind fun bt223=>(if a1=0 then (none) else (some (Int.tmod (wrap64 ((wrap64 ((wrap64 ((wrap64 (t214*16777216))+(wrap64 (bt217.1*65536))))+(wrap64 (bt220.1*256))))+bt223.1)) a1,bt223.2.1,bt223.2.2))))))=some (r1,r2,r3):=H
   have A8:=Fa A80
   clear A80
   replace H:=Option.bind_eq_some_iff.mp H
   obtain⟨⟨t217,t218,t219⟩,A90,H⟩:=H
   replace H:((spec_l1Byte.f s0_0 t218 t219).bind fun bt220=>((spec_l1Byte.f s0_0 bt220.2.1 bt220.2.2).bind fun bt223=>(if a1=0 then (none) else (some (Int.tmod (wrap64 ((wrap64 ((wrap64 ((wrap64 (t214*16777216))+(wrap64 (t217*65536))))+(wrap64 (bt220.1*256))))+bt223.1)) a1,bt223.2.1,bt223.2.2)))))=some (r1,r2,r3):=H
   have A9:=Fa A90
   clear A90
   replace H:=Option.bind_eq_some_iff.mp H
   obtain⟨⟨t220,t221,t222⟩,A100,H⟩:=H
   replace H:((spec_l1Byte.f s0_0 t221 t222).bind fun bt223=>(if a1=0 then (none) else (some (Int.tmod (wrap64 ((wrap64 ((wrap64 ((wrap64 (t214*16777216))+(wrap64 (t217*65536))))+(wrap64 (t220*256))))+bt223.1)) a1,bt223.2.1,bt223.2.2))))=some (r1,r2,r3):=H
   have A10:=Fa A100
   clear A100
   replace H:=Option.bind_eq_some_iff.mp H
   obtain⟨⟨t223,t224,t225⟩,A110,H⟩:=H
   replace H:(if a1=0 then (none) else (some (Int.tmod (wrap64 ((wrap64 ((wrap64 ((wrap64 (t214*16777216))+(wrap64 (t217*65536))))+(wrap64 (t220*256))))+t223)) a1,t224,t225)))=some (r1,r2,r3):=H
   have A11:=Fa A110
   clear A110
   by_cases c12:a1=0
   ·rw [if_pos c12] at H
    exact absurd H (by simp)
   ·rw [if_neg c12] at H
    have c12b0:(a1 == 0)=false:=beq_eq_false_iff_ne.mpr c12
    have c12b1:(a1 != 0)=true:=bne_iff_ne.mpr c12
    simp only [Option.some.injEq,Prod.mk.injEq] at H
    obtain⟨rfl,rfl,rfl⟩:=H
    go_enter Try.func65,Try.ntmps65
    go_wp2_with (first|((with_reducible refine gate_callee (f:=82) rfl ?_);refine goesL_ (some 18) rfl rfl Try.func82 (by kernel_rfl) rfl #[.pointer (some ⟨g,0,none⟩)] rfl (by(try simp only [List.map_toArray,List.map_cons,List.map_nil]);first|done|rfl|(simp only [List.length_drop,List.length_take];rfl)) ?_;(with_reducible refine(spec_l1Byte.calls g s0_0 s0_1 s0_2 t214 t215 t216 w0 _ ?side1 ?side2 A8.out).mono ?_);(case side1=>repeat(first|(with_reducible first|exact qa.out|apply IsS84.alloc|apply IsS84.drewN|apply IsS84.drew|apply IsS84.set_1|apply IsS84.set_2)|exact qa.out));(case side2=>repeat(first|(with_reducible first|exact HB.out|apply Fe|apply Fb|apply Ff|refine Fd ?_ (IsS84.ge qa.out))|exact HB.out));rintro e w13 ⟨rfl,hi,hb,hk⟩;refine⟨_,rfl,?_⟩;have n0_:=Fa (KeepBut.trans (by repeat(first|(with_reducible first|exact HK.out|apply Fw|apply keep_drewN|apply keep_drew|apply keep_alloc)|exact HK.out)) hk (.inl rfl));have n1_:=Fa (hb);have n2_:=Fa (hi);clear HK;clear HB;clear qa;have HK:=n0_;have HB:=n1_;have qa:=n2_;clear n0_ n1_ n2_;(try clear hb);(try clear hb2);(try clear hk);(try clear hi))|((with_reducible refine gate_callee (f:=82) rfl ?_);refine goesL_ (some 20) rfl rfl Try.func82 (by kernel_rfl) rfl #[.pointer (some ⟨g,0,none⟩)] rfl (by(try simp only [List.map_toArray,List.map_cons,List.map_nil]);first|done|rfl|(simp only [List.length_drop,List.length_take];rfl)) ?_;(with_reducible refine(spec_l1Byte.calls g s0_0 t215 t216 t217 t218 t219 w0 _ ?side1 ?side2 A9.out).mono ?_);(case side1=>repeat(first|(with_reducible first|exact qa.out|apply IsS84.alloc|apply IsS84.drewN|apply IsS84.drew|apply IsS84.set_1|apply IsS84.set_2)|exact qa.out));(case side2=>repeat(first|(with_reducible first|exact HB.out|apply Fe|apply Fb|apply Ff|refine Fd ?_ (IsS84.ge qa.out))|exact HB.out));rintro e w14 ⟨rfl,hi,hb,hk⟩;refine⟨_,rfl,?_⟩;have n0_:=Fa (KeepBut.trans (by repeat(first|(with_reducible first|exact HK.out|apply Fw|apply keep_drewN|apply keep_drew|apply keep_alloc)|exact HK.out)) hk (.inl rfl));have n1_:=Fa (hb);have n2_:=Fa (hi);clear HK;clear HB;clear qa;have HK:=n0_;have HB:=n1_;have qa:=n2_;clear n0_ n1_ n2_;(try clear hb);(try clear hb2);(try clear hk);(try clear hi))|((with_reducible refine gate_callee (f:=82) rfl ?_);refine goesL_ (some 22) rfl rfl Try.func82 (by kernel_rfl) rfl #[.pointer (some ⟨g,0,none⟩)] rfl (by(try simp only [List.map_toArray,List.map_cons,List.map_nil]);first|done|rfl|(simp only [List.length_drop,List.length_take];rfl)) ?_;(with_reducible refine(spec_l1Byte.calls g s0_0 t218 t219 t220 t221 t222 w0 _ ?side1 ?side2 A10.out).mono ?_);(case side1=>repeat(first|(with_reducible first|exact qa.out|apply IsS84.alloc|apply IsS84.drewN|apply IsS84.drew|apply IsS84.set_1|apply IsS84.set_2)|exact qa.out));(case side2=>repeat(first|(with_reducible first|exact HB.out|apply Fe|apply Fb|apply Ff|refine Fd ?_ (IsS84.ge qa.out))|exact HB.out));rintro e w15 ⟨rfl,hi,hb,hk⟩;refine⟨_,rfl,?_⟩;have n0_:=Fa (KeepBut.trans (by repeat(first|(with_reducible first|exact HK.out|apply Fw|apply keep_drewN|apply keep_drew|apply keep_alloc)|exact HK.out)) hk (.inl rfl));have n1_:=Fa (hb);have n2_:=Fa (hi);clear HK;clear HB;clear qa;have HK:=n0_;have HB:=n1_;have qa:=n2_;clear n0_ n1_ n2_;(try clear hb);(try clear hb2);(try clear hk);(try clear hi))|((with_reducible refine gate_callee (f:=82) rfl ?_);refine goesL_ (some 24) rfl rfl Try.func82 (by kernel_rfl) rfl #[.pointer (some ⟨g,0,none⟩)] rfl (by(try simp only [List.map_toArray,List.map_cons,List.map_nil]);first|done|rfl|(simp only [List.length_drop,List.length_take];rfl)) ?_;(with_reducible refine(spec_l1Byte.calls g s0_0 t221 t222 t223 t224 t225 w0 _ ?side1 ?side2 A11.out).mono ?_);(case side1=>repeat(first|(with_reducible first|exact qa.out|apply IsS84.alloc|apply IsS84.drewN|apply IsS84.drew|apply IsS84.set_1|apply IsS84.set_2)|exact qa.out));(case side2=>repeat(first|(with_reducible first|exact HB.out|apply Fe|apply Fb|apply Ff|refine Fd ?_ (IsS84.ge qa.out))|exact HB.out));rintro e w16 ⟨rfl,hi,hb,hk⟩;refine⟨_,rfl,?_⟩;have n0_:=Fa (KeepBut.trans (by repeat(first|(with_reducible first|exact HK.out|apply Fw|apply keep_drewN|apply keep_drew|apply keep_alloc)|exact HK.out)) hk (.inl rfl));have n1_:=Fa (hb);have n2_:=Fa (hi);clear HK;clear HB;clear qa;have HK:=n0_;have HB:=n1_;have qa:=n2_;clear n0_ n1_ n2_;(try clear hb);(try clear hb2);(try clear hk);(try clear hi)))
    go_ret
    exact⟨by first|rfl|(simp [errW_none,errW_some] <;> rfl)|(simp [*,errW_none,errW_some] <;> rfl),by repeat(first|(with_reducible first|exact qa.out|apply IsS84.alloc|apply IsS84.drewN|apply IsS84.drew|apply IsS84.set_1|apply IsS84.set_2)|exact qa.out),by repeat(first|(with_reducible first|exact HB.out|apply Fe|apply Fb|apply Ff|refine Fd ?_ (IsS84.ge qa.out))|exact HB.out),by repeat(first|(with_reducible first|exact HK.out|apply Fw|apply keep_drewN|apply keep_drew|apply keep_alloc)|exact HK.out)⟩

/-! ### spec_l1Once: function 64 -/
def spec_l1Once.f (s0_0 : List Int) (s0_1 : Int) (s0_2 : Int) (a1 : Int) : Option (Bool × Int × Int) := (spec_l1Below.f s0_0 s0_1 s0_2 a1).bind fun bt226 => (some ((bt226.1 == 0), bt226.2.1, bt226.2.2))
set_option maxHeartbeats 8000000 in
set_option maxRecDepth 100000 in
theorem spec_l1Once.calls (g : Nat) (s0_0 : List Int) (s0_1 : Int) (s0_2 : Int) (a1 : Int) (r1 : Bool) (r2 : Int) (r3 : Int) (w0 w : World) (hI : IsS84 w0 w g s0_0 s0_1 s0_2) (hB : Below w0.heap.size w0 w) (h : spec_l1Once.f s0_0 s0_1 s0_2 a1 = some (r1, r2, r3)) :
  Calls Try.prog 64 #[.pointer (some ⟨g,0,none⟩),.int .i64 a1] w fun e w'=>e=.returned (.bool r1)∧IsS84 w0 w' g s0_0 r2 r3∧Below w0.heap.size w0 w'∧KeepBut w w' g none:=by
 have qa:=Fa hI
 have HK:=Fa (KeepBut.refl w g none)
 have HL:=Fa hB.size
 clear hI
 have HW0:=Fa hB.size
 have HB:=Fa hB
 clear hB
 have H:((spec_l1Below.f s0_0 s0_1 s0_2 a1).bind fun bt226=>(some ((bt226.1 == 0),bt226.2.1,bt226.2.2)))=some (r1,r2,r3):=h
 clear h
 replace H:=Option.bind_eq_some_iff.mp H
 obtain⟨⟨t226,t227,t228⟩,A30,H⟩:=H
 replace H:(some ((t226 == 0),t227,t228))=some (r1,r2,r3):=H
 have A3:=Fa A30
 clear A30
 simp only [Option.some.injEq,Prod.mk.injEq] at H
 obtain⟨rfl,rfl,rfl⟩:=H
 go_enter Try.func64,Try.ntmps64
 go_wp2_with (first|((with_reducible refine gate_callee (f:=65) rfl ?_);refine goesL_ (some 7) rfl rfl Try.func65 (by kernel_rfl) rfl #[.pointer (some ⟨g,0,none⟩),.int .i64 a1] rfl (by(try simp only [List.map_toArray,List.map_cons,List.map_nil]);first|done|rfl|(simp only [List.length_drop,List.length_take];rfl)) ?_;(with_reducible refine(spec_l1Below.calls g s0_0 s0_1 s0_2 a1 t226 t227 t228 w0 _ ?side1 ?side2 A3.out).mono ?_);(case side1=>repeat(first|(with_reducible first|exact qa.out|apply IsS84.alloc|apply IsS84.drewN|apply IsS84.drew|apply IsS84.set_1|apply IsS84.set_2)|exact qa.out));(case side2=>repeat(first|(with_reducible first|exact HB.out|apply Fe|apply Fb|apply Ff|refine Fd ?_ (IsS84.ge qa.out))|exact HB.out));rintro e w4 ⟨rfl,hi,hb,hk⟩;refine⟨_,rfl,?_⟩;have n0_:=Fa (KeepBut.trans (by repeat(first|(with_reducible first|exact HK.out|apply Fw|apply keep_drewN|apply keep_drew|apply keep_alloc)|exact HK.out)) hk (.inl rfl));have n1_:=Fa (hb);have n2_:=Fa (hi);clear HK;clear HB;clear qa;have HK:=n0_;have HB:=n1_;have qa:=n2_;clear n0_ n1_ n2_;(try clear hb);(try clear hb2);(try clear hk);(try clear hi)))
 go_ret
 exact⟨by first|rfl|(simp [errW_none,errW_some] <;> rfl)|(simp [*,errW_none,errW_some] <;> rfl),by repeat(first|(with_reducible first|exact qa.out|apply IsS84.alloc|apply IsS84.drewN|apply IsS84.drew|apply IsS84.set_1|apply IsS84.set_2)|exact qa.out),by repeat(first|(with_reducible first|exact HB.out|apply Fe|apply Fb|apply Ff|refine Fd ?_ (IsS84.ge qa.out))|exact HB.out),by repeat(first|(with_reducible first|exact HK.out|apply Fw|apply keep_drewN|apply keep_drew|apply keep_alloc)|exact HK.out)⟩

/-! ### spec_l1From: function 63 -/
def spec_l1From.f (s0_0 : List Int) (s0_1 : Int) (s0_2 : Int) (a1 : Int) (a2 : Int) : Option (Int × Int × Int) := (spec_l1Below.f s0_0 s0_1 s0_2 (wrap64 ((wrap64 (a2 - a1)) + 1))).bind fun bt229 => (some (wrap64 (a1 + bt229.1), bt229.2.1, bt229.2.2))
set_option maxHeartbeats 8000000 in
set_option maxRecDepth 100000 in
theorem spec_l1From.calls (g : Nat) (s0_0 : List Int) (s0_1 : Int) (s0_2 : Int) (a1 : Int) (a2 : Int) (r1 : Int) (r2 : Int) (r3 : Int) (w0 w : World) (hI : IsS84 w0 w g s0_0 s0_1 s0_2) (hB : Below w0.heap.size w0 w) (h : spec_l1From.f s0_0 s0_1 s0_2 a1 a2 = some (r1, r2, r3)) :
  Calls Try.prog 63 #[.pointer (some ⟨g,0,none⟩),.int .i64 a1,.int .i64 a2] w fun e w'=>e=.returned (.int .i64 r1)∧IsS84 w0 w' g s0_0 r2 r3∧Below w0.heap.size w0 w'∧KeepBut w w' g none:=by
 have qa:=Fa hI
 have HK:=Fa (KeepBut.refl w g none)
 have HL:=Fa hB.size
 clear hI
 have HW0:=Fa hB.size
 have HB:=Fa hB
 clear hB
 have H:((spec_l1Below.f s0_0 s0_1 s0_2 (wrap64 ((wrap64 (a2 - a1))+1))).bind fun bt229=>(some (wrap64 (a1+bt229.1),bt229.2.1,bt229.2.2)))=some (r1,r2,r3):=h
 clear h
 replace H:=Option.bind_eq_some_iff.mp H
 obtain⟨⟨t229,t230,t231⟩,A40,H⟩:=H
 replace H:(some (wrap64 (a1+t229),t230,t231))=some (r1,r2,r3):=H
 have A4:=Fa A40
 clear A40
 simp only [Option.some.injEq,Prod.mk.injEq] at H
 obtain⟨rfl,rfl,rfl⟩:=H
 go_enter Try.func63,Try.ntmps63
 go_wp2_with (first|((with_reducible refine gate_callee (f:=65) rfl ?_);refine goesL_ (some 13) rfl rfl Try.func65 (by kernel_rfl) rfl #[.pointer (some ⟨g,0,none⟩),.int .i64 (wrap64 ((wrap64 (a2 - a1))+1))] rfl (by(try simp only [List.map_toArray,List.map_cons,List.map_nil]);first|done|rfl|(simp only [List.length_drop,List.length_take];rfl)) ?_;(with_reducible refine(spec_l1Below.calls g s0_0 s0_1 s0_2 (wrap64 ((wrap64 (a2 - a1))+1)) t229 t230 t231 w0 _ ?side1 ?side2 A4.out).mono ?_);(case side1=>repeat(first|(with_reducible first|exact qa.out|apply IsS84.alloc|apply IsS84.drewN|apply IsS84.drew|apply IsS84.set_1|apply IsS84.set_2)|exact qa.out));(case side2=>repeat(first|(with_reducible first|exact HB.out|apply Fe|apply Fb|apply Ff|refine Fd ?_ (IsS84.ge qa.out))|exact HB.out));rintro e w5 ⟨rfl,hi,hb,hk⟩;refine⟨_,rfl,?_⟩;have n0_:=Fa (KeepBut.trans (by repeat(first|(with_reducible first|exact HK.out|apply Fw|apply keep_drewN|apply keep_drew|apply keep_alloc)|exact HK.out)) hk (.inl rfl));have n1_:=Fa (hb);have n2_:=Fa (hi);clear HK;clear HB;clear qa;have HK:=n0_;have HB:=n1_;have qa:=n2_;clear n0_ n1_ n2_;(try clear hb);(try clear hb2);(try clear hk);(try clear hi)))
 go_ret
 exact⟨by first|rfl|(simp [errW_none,errW_some] <;> rfl)|(simp [*,errW_none,errW_some] <;> rfl),by repeat(first|(with_reducible first|exact qa.out|apply IsS84.alloc|apply IsS84.drewN|apply IsS84.drew|apply IsS84.set_1|apply IsS84.set_2)|exact qa.out),by repeat(first|(with_reducible first|exact HB.out|apply Fe|apply Fb|apply Ff|refine Fd ?_ (IsS84.ge qa.out))|exact HB.out),by repeat(first|(with_reducible first|exact HK.out|apply Fw|apply keep_drewN|apply keep_drew|apply keep_alloc)|exact HK.out)⟩

end Go.Proofs.Ytbdnpfjjaokdbaa.HFnMotion
