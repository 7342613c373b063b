-- Laid by myprint.py, a program of this repo, out of the kit's printer and this repo's own texts (wip/hand).
import Derived.Test.YtbdnpfjjaokdbaaHFnCodedx0
import Derived.Test.YtbdnpfjjaokdbaaHFnCodedx2
import Derived.Test.YtbdnpfjjaokdbaaHFnCodedx10
namespace Go.Proofs.Ytbdnpfjjaokdbaa.HFnCoded
open Go.RowKit Go.Proofs.YtbdnpfjjaokdbaaW.PrintWords Go.Proofs.YtbdnpfjjaokdbaaW.PrintLast Go.Proofs.YtbdnpfjjaokdbaaW.PrintMore
attribute [local go_sem] max2_int min2_int max_two min_two max_three min_three max_four min_four   -- for this text's walks alone
set_option linter.unusedVariables false
set_option linter.unusedSimpArgs false
theorem La : type_of% @Aside0.mk := @Aside0.mk
theorem Lb : type_of% @blk_drew := @blk_drew
theorem Lc : type_of% @Kd.R_drew := @Kd.R_drew
theorem Ld : type_of% @pw_below_drewN := @pw_below_drewN
theorem Le : type_of% @below_set := @below_set
theorem Lf : type_of% @below_alloc := @below_alloc
theorem Lg : type_of% @below_drew1 := @below_drew1
theorem Lh : type_of% @blk_alloc := @blk_alloc
theorem Li : type_of% @blk_drewN := @blk_drewN
theorem Lj : type_of% @Kd.R_alloc := @Kd.R_alloc
theorem Lk : type_of% @Kd.R_drewN := @Kd.R_drewN
theorem Ll : type_of% @blk_below := @blk_below
theorem Lm : type_of% @below_size := @below_size
theorem Ln : type_of% @below_step := @below_step
theorem Lo : type_of% @Kd.R_below := @Kd.R_below
theorem Lp : type_of% @blk_frozen := @blk_frozen
theorem Lq : type_of% @blk_cell := @blk_cell
theorem Lr : type_of% @Kd.R_reads' := @Kd.R_reads'

def impl_motion_go (k : Nat) : S89 → List S89 → Option (Int × Int × Int)
 | m, [] => some (m.f0, m.f1, m.f2)
 | m, x :: xs => (impl_motion_1.f k x.f0 x.f1 x.f2 m.f0 m.f1 m.f2).bind fun t => if t < 0 then impl_motion_go k x xs else impl_motion_go k m xs
def impl_motion_min.f (k : Nat) (l0 : List S89) : Option (Int × Int × Int) := match l0 with
 | [] => none
 | x :: xs => impl_motion_go k x xs
theorem impl_motion_go_mono (k : Nat) : ∀ (xs : List S89) (m : S89), LeO (impl_motion_go k m xs) (impl_motion_go (k + 1) m xs)
 | [], m => LeO.refl _
 | x :: xs, m => by
  unfold impl_motion_go
  refine LeO.bind (impl_motion_1.mono _ _ _ _ _ _ _) (fun t=>LeO.ite (impl_motion_go_mono k xs x) (impl_motion_go_mono k xs m))
theorem impl_motion_min.mono : ∀ a0 k, LeO (impl_motion_min.f k a0) (impl_motion_min.f (k + 1) a0)
 | [], k => LeO.refl _
 | x :: xs, k => impl_motion_go_mono k xs x
theorem impl_motion_two (w : World) (o1 o2 : Obj) : ((w.alloc o1).alloc o2).heap[w.heap.size + 1]? = some o2 := by
 have h:=Go.Deep.blk_alloc_new (w.alloc o1) o2
 have e:(w.alloc o1).heap.size=w.heap.size+1:=Array.size_push _
 rwa [e] at h
set_option maxHeartbeats 2000000 in
set_option maxRecDepth 100000 in
theorem impl_motion_min.calls (k : Nat) (A0 : Option Addr) (c0 : Nat) (l0 : List S89) (r1 r2 r3 : Int) (w : World) (hr0 : Kd.C k89 w A0 l0.length l0) (hc0 : l0.length ≤ c0) (h : impl_motion_min.f k l0 = some (r1, r2, r3)) :
  Calls Try.prog 88 #[.slice A0 l0.length c0,.func (.func 89) #[] #[]] w fun e w'=>e=.returned (.agg #[.int .i64 r1,.int .i64 r2,.int .i64 r3])∧Below w.heap.size w w':=by
 have huW:=Try.underlying89
 have HR0:=La hr0
 have HC0:=La hc0
 have HM0:=La hr0.2.1
 clear hr0 hc0
 have hpos:0 < l0.length:=by
  cases l0 with
  | nil => exact absurd h (by simp [impl_motion_min.f])
  | cons x xs => simp
 have H:=La (show impl_motion_go k (rd_T89 l0 0) (l0.drop 1)=some (r1,r2,r3) by
  cases l0 with
  | nil => exact absurd hpos (by simp)
  | cons x xs => exact h)
 clear h
 obtain⟨ad,e0,m0,m1,m2⟩:=at_T89 HR0.out (0:Int) (by omega) (by omega)
 cases e0
 rw [show ad.add (Int.toNat 0*3)=ad by cases ad;rfl] at m0 m1 m2
 generalize rd_T89 l0 0=x0 at H m0 m1 m2
 have c1:decide ((l0.length:Int) < 1)=false:=decide_eq_false (by omega)
 have q0:((0:Int) < (l0.length:Int))=True:=eq_true (by omega)
 have r0:(0 < l0.length)=True:=eq_true hpos
 have hb0:ad.block < w.heap.size:=World.block_lt_of_cell? _ _ m0
 have n0:=((Lf (Below.refl w.heap.size w) (.cells #[.int .i64 0,.int .i64 0,.int .i64 0] 89 (0,0))).cell (p:=ad) hb0).trans m0
 have n1:=((Lf (Below.refl w.heap.size w) (.cells #[.int .i64 0,.int .i64 0,.int .i64 0] 89 (0,0))).cell (p:=⟨ad.block,ad.off+1,none⟩) hb0).trans m1
 have n2:=((Lf (Below.refl w.heap.size w) (.cells #[.int .i64 0,.int .i64 0,.int .i64 0] 89 (0,0))).cell (p:=⟨ad.block,ad.off+2,none⟩) hb0).trans m2
 have HPOS:=La hpos
 clear hpos m0 m1 m2
 go_enter Try.func88,Try.ntmps88
 go_wp2
 clear n0 n1 n2 hb0
 go_loopg [6] l0.length (fun gg v6 w'=>∃ (kk:Nat) (m:S89),Aside0 (1≤kk∧kk≤l0.length∧l0.length - kk≤gg)∧v6=.int .i64 (kk:Int)∧Aside0 (impl_motion_go k m (l0.drop kk)=some (r1,r2,r3))∧Aside0 (w'.heap[w.heap.size]? = some (.cells #[.int .i64 0,.int .i64 0,.int .i64 0] 89 (0,0)))∧Aside0 (w'.heap[w.heap.size+1]? = some (.cells #[.int .i64 m.f0,.int .i64 m.f1,.int .i64 m.f2] 89 (0,0)))∧Aside0 (Below w.heap.size w w'))
 case atStart=>exact⟨1,x0,⟨by omega,by have:=HPOS.out;omega,by omega⟩,rfl,H,⟨Lh (Go.Deep.blk_alloc_new w _) _⟩,⟨impl_motion_two w _ _⟩,⟨Lf (Lf (Below.refl _ _) _) _⟩⟩
 case round=>
  clear H
  obtain⟨kk,m,HK,rfl,HI,BT,BM,HB⟩:=hrel
  have HM2:l0.length≤9223372036854775807:=HM0.out
  by_cases hlt:kk < l0.length
  ·have HI2:((impl_motion_1.f k (rd_T89 l0 (kk:Int)).f0 (rd_T89 l0 (kk:Int)).f1 (rd_T89 l0 (kk:Int)).f2 m.f0 m.f1 m.f2).bind fun t=>if t < 0 then impl_motion_go k (rd_T89 l0 (kk:Int)) (l0.drop (kk+1)) else impl_motion_go k m (l0.drop (kk+1)))=some (r1,r2,r3):=by
    have:=HI.out
    rw [List.drop_eq_getElem_cons hlt] at this
    have e:l0[kk]=rd_T89 l0 (kk:Int):=by simp [rd_T89,List.getD_eq_getElem?_getD,List.getElem?_eq_getElem hlt]
    rw [e] at this
    exact this
   clear HI
   obtain⟨t,ht,HI3⟩:=Option.bind_eq_some_iff.1 HI2
   clear HI2
   have HT:=La ht
   clear ht
   obtain⟨ad2,e2,m0,m1,m2⟩:=at_T89 (Kd.C_below HR0.out HB.out) (kk:Int) (by omega) (by omega)
   cases e2
   simp only [Int.toNat_natCast] at m0 m1 m2
   generalize rd_T89 l0 (kk:Int)=x at HT HI3 m0 m1 m2
   have hltb:decide ((kk:Int) < (l0.length:Int))=true:=decide_eq_true (by omega)
   have p0:(0≤(kk:Int))=True:=eq_true (by omega)
   have q1:((kk:Int) < (l0.length:Int))=True:=eq_true (by omega)
   have g0:wr.cell? ⟨w.heap.size+1,0,none⟩=some (.int .i64 m.f0):=(Lq BM.out 0).trans rfl
   have g1:wr.cell? ⟨w.heap.size+1,1,none⟩=some (.int .i64 m.f1):=(Lq BM.out 1).trans rfl
   have g2:wr.cell? ⟨w.heap.size+1,2,none⟩=some (.int .i64 m.f2):=(Lq BM.out 2).trans rfl
   have HI4:=La HI3
   clear HI3
   go_wp2
   have hstep:wrap64 ((kk:Int)+1)=((kk+1:Nat):Int):=by unfold wrap64;omega
   have HST:=La hstep
   clear hstep
   by_cases ht0:t < 0
   ·have cT:decide (t < 0)=true:=decide_eq_true ht0
    have HI5:=La (show impl_motion_go k x (l0.drop (kk+1))=some (r1,r2,r3) by have:=HI4.out;rwa [if_pos ht0] at this)
    clear HI4 ht0
    go_region_held3 (fun w'=>w'.cell? (ad.add (kk*3))=some (.int .i64 x.f0)∧w'.cell? (⟨(ad.add (kk*3)).block,(ad.add (kk*3)).off+1,none⟩)=some (.int .i64 x.f1)∧w'.cell? (⟨(ad.add (kk*3)).block,(ad.add (kk*3)).off+2,none⟩)=some (.int .i64 x.f2)∧w'.cell? ⟨w.heap.size+1,0,none⟩=some (.int .i64 m.f0)∧w'.cell? ⟨w.heap.size+1,1,none⟩=some (.int .i64 m.f1)∧w'.cell? ⟨w.heap.size+1,2,none⟩=some (.int .i64 m.f2)) (go_keep) ((go_at_call 89;refine(impl_motion_1.calls k _ _ _ _ _ _ t _ HT.out).mono ?_;rintro e w5 ⟨rfl,hb5⟩;have hh_:=‹_∧_∧_∧_∧_∧_›;have k0:=(hb5.cell (World.block_lt_of_cell? _ _ hh_.1)).trans hh_.1;have k1:=(hb5.cell (World.block_lt_of_cell? _ _ hh_.2.1)).trans hh_.2.1;have k2:=(hb5.cell (World.block_lt_of_cell? _ _ hh_.2.2.1)).trans hh_.2.2.1;have k3:=(hb5.cell (World.block_lt_of_cell? _ _ hh_.2.2.2.1)).trans hh_.2.2.2.1;have k4:=(hb5.cell (World.block_lt_of_cell? _ _ hh_.2.2.2.2.1)).trans hh_.2.2.2.2.1;have k5:=(hb5.cell (World.block_lt_of_cell? _ _ hh_.2.2.2.2.2)).trans hh_.2.2.2.2.2;clear hh_;have HB5:=La hb5;clear hb5))
    all_goals (
     have HF:=La (Ln (by repeat(first|exact Below.refl wr.heap.size wr|apply Lg)) HB5.out)
     have HB2:=La (Ln HB.out HF.out)
     have BT2:=La (Ll BT.out HF.out)
     have BM2:=La (Ll BM.out HF.out)
     clear HB BT BM HF HB5 m0 m1 m2 g0 g1 g2
     have f0:=Lp BM2.out 0
     have f1:=Lp BM2.out 1
     have f2:=Lp BM2.out 2
     go_wp2
     go_roundg (l0.length - (kk+1))
     (case measure=>(have:=HK.out;omega))
     (case rel=>exact⟨kk+1,x,⟨by omega,by omega,by omega⟩,by first|rfl|go_num|(rw [HST.out]),HI5,⟨blk_far (blk_far (blk_far BT2.out (by simp) _) (by simp) _) (by simp) _⟩,⟨blk_put (blk_put (blk_put BM2.out 0 _ rfl) 1 _ rfl) 2 _ rfl⟩,⟨Le (Le (Le HB2.out (Nat.le_succ _)) (Nat.le_succ _)) (Nat.le_succ _)⟩⟩))
   ·have cT:decide (t < 0)=false:=decide_eq_false ht0
    have HI5:=La (show impl_motion_go k m (l0.drop (kk+1))=some (r1,r2,r3) by have:=HI4.out;rwa [if_neg ht0] at this)
    clear HI4 ht0
    go_region_held3 (fun w'=>w'.cell? (ad.add (kk*3))=some (.int .i64 x.f0)∧w'.cell? (⟨(ad.add (kk*3)).block,(ad.add (kk*3)).off+1,none⟩)=some (.int .i64 x.f1)∧w'.cell? (⟨(ad.add (kk*3)).block,(ad.add (kk*3)).off+2,none⟩)=some (.int .i64 x.f2)∧w'.cell? ⟨w.heap.size+1,0,none⟩=some (.int .i64 m.f0)∧w'.cell? ⟨w.heap.size+1,1,none⟩=some (.int .i64 m.f1)∧w'.cell? ⟨w.heap.size+1,2,none⟩=some (.int .i64 m.f2)) (go_keep) ((go_at_call 89;refine(impl_motion_1.calls k _ _ _ _ _ _ t _ HT.out).mono ?_;rintro e w5 ⟨rfl,hb5⟩;have hh_:=‹_∧_∧_∧_∧_∧_›;have k0:=(hb5.cell (World.block_lt_of_cell? _ _ hh_.1)).trans hh_.1;have k1:=(hb5.cell (World.block_lt_of_cell? _ _ hh_.2.1)).trans hh_.2.1;have k2:=(hb5.cell (World.block_lt_of_cell? _ _ hh_.2.2.1)).trans hh_.2.2.1;have k3:=(hb5.cell (World.block_lt_of_cell? _ _ hh_.2.2.2.1)).trans hh_.2.2.2.1;have k4:=(hb5.cell (World.block_lt_of_cell? _ _ hh_.2.2.2.2.1)).trans hh_.2.2.2.2.1;have k5:=(hb5.cell (World.block_lt_of_cell? _ _ hh_.2.2.2.2.2)).trans hh_.2.2.2.2.2;clear hh_;have HB5:=La hb5;clear hb5))
    all_goals (
     have HF:=La (Ln (by repeat(first|exact Below.refl wr.heap.size wr|apply Lg)) HB5.out)
     have HB2:=La (Ln HB.out HF.out)
     have BT2:=La (Ll BT.out HF.out)
     have BM2:=La (Ll BM.out HF.out)
     clear HB BT BM HF HB5 m0 m1 m2 g0 g1 g2
     go_wp2
     go_roundg (l0.length - (kk+1))
     (case measure=>(have:=HK.out;omega))
     (case rel=>exact⟨kk+1,m,⟨by omega,by omega,by omega⟩,by first|rfl|go_num|(rw [HST.out]),HI5,BT2,BM2,HB2⟩))
  ·have hltb:decide ((kk:Int) < (l0.length:Int))=false:=decide_eq_false (by omega)
   have hi:kk=l0.length:=by have:=HK.out;omega
   have hr:m.f0=r1∧m.f1=r2∧m.f2=r3:=by
    have:=HI.out
    rw [hi,List.drop_length] at this
    simpa [impl_motion_go] using this
   obtain⟨rfl,rfl,rfl⟩:=hr
   have g0:wr.cell? ⟨w.heap.size+1,0,none⟩=some (.int .i64 m.f0):=(Lq BM.out 0).trans rfl
   have g1:wr.cell? ⟨w.heap.size+1,1,none⟩=some (.int .i64 m.f1):=(Lq BM.out 1).trans rfl
   have g2:wr.cell? ⟨w.heap.size+1,2,none⟩=some (.int .i64 m.f2):=(Lq BM.out 2).trans rfl
   have d0:wr.cell? ⟨w.heap.size,0,none⟩=some (.int .i64 0):=(Lq BT.out 0).trans rfl
   have d1:wr.cell? ⟨w.heap.size,1,none⟩=some (.int .i64 0):=(Lq BT.out 1).trans rfl
   have d2:wr.cell? ⟨w.heap.size,2,none⟩=some (.int .i64 0):=(Lq BT.out 2).trans rfl
   have f0:=Lp BT.out 0
   have f1:=Lp BT.out 1
   have f2:=Lp BT.out 2
   clear HI
   go_wp2
   refine bodyPost_ret (results_cell_row rfl _ _ w.heap.size 89 #[.int .i64 m.f0,.int .i64 m.f1,.int .i64 m.f2] (0,0) _ rfl (blk_put (blk_put (blk_put BT.out 0 _ rfl) 1 _ rfl) 2 _ rfl) huW rfl (by kernel_rfl)) rfl ?_
   exact⟨rfl,Le (Le (Le HB.out (Nat.le_refl _)) (Nat.le_refl _)) (Nat.le_refl _)⟩

/-! ### impl_motion: function 71 -/
mutual
def impl_motion.l0 : Nat → Int → List Int → List (S89) → Int → Int → Int → List Int → Option (Int × Int)
 | 0, _, _, _, _, _, _, _ => none
 | k + 1, x2, x8, x9, x10, x261000, x261001, x261002 => if x10 ≤ 2 then (impl_motion.l1 k x2 x8 x9 x10 (-2) x261000 x261001 x261002) else ((impl_motion_min.f k x9).bind fun bt268 => (some (bt268.2.1, bt268.2.2)))
def impl_motion.l1 : Nat → Int → List Int → List (S89) → Int → Int → Int → Int → List Int → Option (Int × Int)
 | 0, _, _, _, _, _, _, _, _ => none
 | k + 1, x2, x8, x9, x10, x11, x261000, x261001, x261002 => if x11 ≤ 2 then ((impl_Picture_at.f k x261000 x261001 x261002 x2 x11 x10).bind fun t272 => ((impl_offBy.f k x8 t272).bind fun t275 => (if x9.length < 5864062014805 then (impl_motion.l1 k x2 x8 (x9 ++ [(⟨t275, x11, x10⟩ : S89)]) x10 (wrap64 (x11 + 1)) x261000 x261001 x261002) else (none)))) else (impl_motion.l0 k x2 x8 x9 (wrap64 (x10 + 1)) x261000 x261001 x261002)
end
def impl_motion.f (k : Nat) (a0_0 : Int) (a0_1 : Int) (l0_2 : List Int) (a1_0 : Int) (a1_1 : Int) (l1_2 : List Int) (a2 : Int) : Option (Int × Int) := (impl_Picture_at.f k a1_0 a1_1 l1_2 a2 0 0).bind fun t262 => (impl_motion.l0 k a2 t262 (([] : List (S89))) (-2) a0_0 a0_1 l0_2)
theorem impl_motion.mono_l : ∀ k, (∀ y0 y1 y2 y3 y4 y5 y6, LeO (impl_motion.l0 k y0 y1 y2 y3 y4 y5 y6) (impl_motion.l0 (k + 1) y0 y1 y2 y3 y4 y5 y6)) ∧ (∀ y0 y1 y2 y3 y4 y5 y6 y7, LeO (impl_motion.l1 k y0 y1 y2 y3 y4 y5 y6 y7) (impl_motion.l1 (k + 1) y0 y1 y2 y3 y4 y5 y6 y7))
 | 0 => ⟨fun _ _ _ _ _ _ _ r h => by simp [impl_motion.l0] at h, fun _ _ _ _ _ _ _ _ r h => by simp [impl_motion.l1] at h⟩
 | k + 1 => by
  obtain⟨ih0,ih1⟩:=impl_motion.mono_l k
  refine⟨?_,?_⟩
  ·intro y0 y1 y2 y3 y4 y5 y6
   unfold impl_motion.l0
   repeat' first
   | (with_reducible exact ih0 _ _ _ _ _ _ _)
   | (with_reducible exact ih1 _ _ _ _ _ _ _ _)
   | (with_reducible exact impl_Picture_at.mono _ _ _ _ _ _ _)
   | (with_reducible exact impl_motion_min.mono _ _)
   | (with_reducible exact impl_offBy.mono _ _ _)
   | (with_reducible exact LeO.refl _)
   | (with_reducible exact LeO.none _)
   | (with_reducible refine LeO.ite ?_ ?_)
   | (with_reducible refine LeO.bind ?_ (fun _ => ?_))
   | exact ih0 _ _ _ _ _ _ _
   | exact ih1 _ _ _ _ _ _ _ _
   | exact impl_Picture_at.mono _ _ _ _ _ _ _
   | exact impl_motion_min.mono _ _
   | exact impl_offBy.mono _ _ _
   | exact LeO.none _
   | refine LeO.ite ?_ ?_
   | refine LeO.bind ?_ (fun _ => ?_)
  ·intro y0 y1 y2 y3 y4 y5 y6 y7
   unfold impl_motion.l1
   repeat' first
   | (with_reducible exact ih0 _ _ _ _ _ _ _)
   | (with_reducible exact ih1 _ _ _ _ _ _ _ _)
   | (with_reducible exact impl_Picture_at.mono _ _ _ _ _ _ _)
   | (with_reducible exact impl_motion_min.mono _ _)
   | (with_reducible exact impl_offBy.mono _ _ _)
   | (with_reducible exact LeO.refl _)
   | (with_reducible exact LeO.none _)
   | (with_reducible refine LeO.ite ?_ ?_)
   | (with_reducible refine LeO.bind ?_ (fun _ => ?_))
   | exact ih0 _ _ _ _ _ _ _
   | exact ih1 _ _ _ _ _ _ _ _
   | exact impl_Picture_at.mono _ _ _ _ _ _ _
   | exact impl_motion_min.mono _ _
   | exact impl_offBy.mono _ _ _
   | exact LeO.none _
   | refine LeO.ite ?_ ?_
   | refine LeO.bind ?_ (fun _ => ?_)
theorem impl_motion.mono : ∀ a0 a1 a2 a3 a4 a5 a6 k, LeO (impl_motion.f k a0 a1 a2 a3 a4 a5 a6) (impl_motion.f (k + 1) a0 a1 a2 a3 a4 a5 a6) := by
 intro a0 a1 a2 a3 a4 a5 a6 k
 obtain⟨ih0,ih1⟩:=impl_motion.mono_l k
 unfold impl_motion.f
 repeat' first
   | (with_reducible exact ih0 _ _ _ _ _ _ _)
   | (with_reducible exact ih1 _ _ _ _ _ _ _ _)
   | (with_reducible exact impl_Picture_at.mono _ _ _ _ _ _ _)
   | (with_reducible exact impl_motion_min.mono _ _)
   | (with_reducible exact impl_offBy.mono _ _ _)
   | (with_reducible exact LeO.refl _)
   | (with_reducible exact LeO.none _)
   | (with_reducible refine LeO.ite ?_ ?_)
   | (with_reducible refine LeO.bind ?_ (fun _ => ?_))
   | exact ih0 _ _ _ _ _ _ _
   | exact ih1 _ _ _ _ _ _ _ _
   | exact impl_Picture_at.mono _ _ _ _ _ _ _
   | exact impl_motion_min.mono _ _
   | exact impl_offBy.mono _ _ _
   | exact LeO.none _
   | refine LeO.ite ?_ ?_
   | refine LeO.bind ?_ (fun _ => ?_)
set_option maxHeartbeats 8000000 in
set_option maxRecDepth 100000 in
theorem impl_motion.calls (k : Nat) (a0_0 : Int) (a0_1 : Int) (A0_2 : Option Addr) (c0_2 : Nat) (l0_2 : List Int) (a1_0 : Int) (a1_1 : Int) (A1_2 : Option Addr) (c1_2 : Nat) (l1_2 : List Int) (a2 : Int) (r1 : Int) (r2 : Int) (w : World) (hr0_2 : Kd.C (Kd.int .i64) w A0_2 l0_2.length l0_2) (hc0_2 : l0_2.length ≤ c0_2) (hr1_2 : Kd.C (Kd.int .i64) w A1_2 l1_2.length l1_2) (hc1_2 : l1_2.length ≤ c1_2) (h : impl_motion.f k a0_0 a0_1 l0_2 a1_0 a1_1 l1_2 a2 = some (r1, r2)) :
  Calls Try.prog 71 #[.agg #[.int .i64 a0_0,.int .i64 a0_1,.slice A0_2 l0_2.length c0_2],.agg #[.int .i64 a1_0,.int .i64 a1_1,.slice A1_2 l1_2.length c1_2],.int .i64 a2] w fun e w'=>e=.returned (.tuple #[.int .i64 r1,.int .i64 r2])∧Below w.heap.size w w':=by
 have hu27:=Try.underlying27
 have hu89:=Try.underlying89
 have HR0_2:=La hr0_2
 have HC0_2:=La hc0_2
 clear hr0_2 hc0_2
 have HR1_2:=La hr1_2
 have HC1_2:=La hc1_2
 clear hr1_2 hc1_2
 have HB:=La (Below.refl w.heap.size w)
 have H:((impl_Picture_at.f k a1_0 a1_1 l1_2 a2 0 0).bind fun t262=>(impl_motion.l0 k a2 t262 (([]:List (S89))) (-2) a0_0 a0_1 l0_2))=some (r1,r2):=h
 clear h
 replace H:=Option.bind_eq_some_iff.mp H
 obtain⟨t262,A40,H⟩:=H
 replace H:(impl_motion.l0 k a2 t262 (([]:List (S89))) (-2) a0_0 a0_1 l0_2)=some (r1,r2):=H
 have A4:=La A40
 clear A40
 obtain⟨y265,hy265⟩:∃ y_:List (S89),y_=(([]:List (S89))):=⟨_,rfl⟩
 replace H:(impl_motion.l0 k a2 t262 y265 (-2) a0_0 a0_1 l0_2)=some (r1,r2):=by first|(rw [hy265];with_reducible exact H)|(have yb:=(Option.bind_some _ _).symm.trans H;rw [hy265];with_reducible exact yb)|(have yb:=(Option.bind_some _ _).symm.trans H;with_reducible exact yb)|with_reducible exact H|(rw [hy265];exact H)|exact H
 have yc:=La hy265
 clear hy265
 have H':=La H
 clear H
 go_enter Try.func71,Try.ntmps71
 go_wp2_with (first|((with_reducible refine gate_dst (N:=3) rfl ?_);refine box_event ?hg (N:=3) ?hd (cs:=#[.int .i64 a0_0,.int .i64 a0_1,.slice A0_2 l0_2.length c0_2]) (t:=27) ?hr ?_;(case hd=>rfl);(case hg=>rfl);(case hr=>first|(go_simp;done)|(go_simp;rfl));intro qc hg w5 hbox hb;have qj:=La (Ln (by repeat(first|(with_reducible first|exact HB.out|apply Lf|apply Ld|apply Lg)|exact HB.out)) hb);have qk:=La (hbox);have qm:=La ((by rw [hg];exact(Lm (by repeat(first|(with_reducible first|exact HB.out|apply Lf|apply Ld|apply Lg)|exact HB.out))):w.heap.size≤qc));have qn:=La ((by rw [hg];exact(Lm (by repeat(first|(with_reducible first|exact HB.out|apply Lf|apply Ld|apply Lg)|exact HB.out))):w.heap.size≤qc));clear HB;have HB:=qj;have qa:=qk;have GW260:=qm;have qe:=qn;clear qj qk qm qn;clear hb hbox hg)|((with_reducible refine gate_dst (N:=4) rfl ?_);refine box_event ?hg (N:=4) ?hd (cs:=#[.int .i64 a1_0,.int .i64 a1_1,.slice A1_2 l1_2.length c1_2]) (t:=27) ?hr ?_;(case hd=>rfl);(case hg=>rfl);(case hr=>first|(go_simp;done)|(go_simp;rfl));intro qd hg w6 hbox hb;have qj:=La (Ll (g:=qc) (o:=.cells #[.int .i64 a0_0,.int .i64 a0_1,.slice A0_2 l0_2.length c0_2] 27 (0,0)) (by(with_reducible repeat(first|refine Li ?_ _|refine Lb ?_|refine Lh ?_ _));exact qa.out) hb);have qk:=La (Ln (by repeat(first|(with_reducible first|exact HB.out|apply Lf|apply Ld|apply Lg|refine Le ?_ qe.out)|exact HB.out)) hb);have qm:=La (hbox);have qn:=La ((by rw [hg];exact(Lm (by repeat(first|(with_reducible first|exact HB.out|apply Lf|apply Ld|apply Lg|refine Le ?_ qe.out)|exact HB.out))):w.heap.size≤qd));have qr:=La ((by rw [hg];exact(Lm (by repeat(first|(with_reducible first|exact HB.out|apply Lf|apply Ld|apply Lg|refine Le ?_ qe.out)|exact HB.out))):w.heap.size≤qd));have qu:=La ((by rw [hg];exact Nat.ne_of_lt (blk_lt (g:=qc) (o:=.cells #[.int .i64 a0_0,.int .i64 a0_1,.slice A0_2 l0_2.length c0_2] 27 (0,0)) (by(with_reducible repeat(first|refine Li ?_ _|refine Lb ?_|refine Lh ?_ _));exact qa.out)):qc≠qd));have n6_:=La ((by rw [hg];exact Nat.ne_of_gt (blk_lt (g:=qc) (o:=.cells #[.int .i64 a0_0,.int .i64 a0_1,.slice A0_2 l0_2.length c0_2] 27 (0,0)) (by(with_reducible repeat(first|refine Li ?_ _|refine Lb ?_|refine Lh ?_ _));exact qa.out)):qd≠qc));clear qa;clear HB;have qa:=qj;have HB:=qk;have qb:=qm;have GW261:=qn;have qf:=qr;have qs:=qu;have qt:=n6_;clear qj qk qm qn qr qu n6_;clear hb hbox hg;have hnb7:=qt.out;have hnc7:=qs.out;have hcz8_0:w6.cell? ⟨qd,0,none⟩=some (.int .i64 a1_0):=(Lq qb.out 0).trans rfl;have hcz8_1:w6.cell? ⟨qd,1,none⟩=some (.int .i64 a1_1):=(Lq qb.out 1).trans rfl;have hcz8_2:w6.cell? ⟨qd,2,none⟩=some (.slice A1_2 l1_2.length c1_2):=(Lq qb.out 2).trans rfl;have hfz8_0:=Lp qb.out 0;have hfz8_1:=Lp qb.out 1;have hfz8_2:=Lp qb.out 2)|(go_at_call 78;(with_reducible refine(impl_Picture_at.calls k a1_0 a1_1 _ _ l1_2 a2 0 0 t262 _ ?side1 ?side2 A4.out).mono ?_);(case side1=>repeat(first|exact(Kd.C_below HR1_2.out HB.out)|(with_reducible refine Kd.C_alloc ?_ _)|(with_reducible refine Kd.C_drewN ?_ _)|(with_reducible refine Kd.C_drew ?_)));(case side2=>exact HC1_2.out);rintro e w9 ⟨v263,rfl,yd,hb⟩;have qj:=La (Kd.R_lower yd (Lm (by repeat(first|(with_reducible first|exact HB.out|apply Lf|apply Ld|apply Lg|refine Le ?_ qe.out|refine Le ?_ qf.out)|exact HB.out))));have qk:=La (Ll (g:=qc) (o:=.cells #[.int .i64 a0_0,.int .i64 a0_1,.slice A0_2 l0_2.length c0_2] 27 (0,0)) (by(with_reducible repeat(first|refine Li ?_ _|refine Lb ?_|refine Lh ?_ _));exact qa.out) hb);have qm:=La (Ll (g:=qd) (o:=.cells #[.int .i64 a1_0,.int .i64 a1_1,.slice A1_2 l1_2.length c1_2] 27 (0,0)) (by(with_reducible repeat(first|refine Li ?_ _|refine Lb ?_|refine Lh ?_ _));exact qb.out) hb);have qn:=La (Ln (by repeat(first|(with_reducible first|exact HB.out|apply Lf|apply Ld|apply Lg|refine Le ?_ qe.out|refine Le ?_ qf.out)|exact HB.out)) hb);clear qa;clear qb;clear HB;have qz:=qj;have qa:=qk;have qb:=qm;have HB:=qn;clear qj qk qm qn;(try clear hb);(try clear hb2);(try clear hk);(try clear hi);(try clear yd))|((with_reducible refine gate_dst (N:=16) rfl ?_);refine Kd.R_lit k89 _ 89 ?hg (N:=16) ?hd (xs:=([]:List (S89))) (inner:=[]) (ok:=fun _=>True) (okp:=fun _=>True) ?hr ?hp (fun _ hk=>hk) trivial (Below.refl _ _) (Nat.le_refl _) (by simp) ?_;(case hd=>rfl);(case hg=>rfl);(case hr=>first|(go_simp;done)|(go_simp;rfl));(case hp=>exact(Reps.none _ _));intro v266 w10 ho11 hb hg_ hnew_;clear hg_ hnew_;(first|rw [← yc.out] at ho11|(simp only [Int.reduceToNat] at ho11;rw [← yc.out] at ho11));have qj:=La (Lo (by(with_reducible repeat(first|apply Lj|apply Lk|apply Lc));exact qz.out) hb);have qk:=La (Kd.R_lower ho11 (Lm (by repeat(first|(with_reducible first|exact HB.out|apply Lf|apply Ld|apply Lg|refine Le ?_ qe.out|refine Le ?_ qf.out)|exact HB.out))));have qm:=La (Ll (g:=qc) (o:=.cells #[.int .i64 a0_0,.int .i64 a0_1,.slice A0_2 l0_2.length c0_2] 27 (0,0)) (by(with_reducible repeat(first|refine Li ?_ _|refine Lb ?_|refine Lh ?_ _));exact qa.out) hb);have qn:=La (Ll (g:=qd) (o:=.cells #[.int .i64 a1_0,.int .i64 a1_1,.slice A1_2 l1_2.length c1_2] 27 (0,0)) (by(with_reducible repeat(first|refine Li ?_ _|refine Lb ?_|refine Lh ?_ _));exact qb.out) hb);have qr:=La (Ln (by repeat(first|(with_reducible first|exact HB.out|apply Lf|apply Ld|apply Lg|refine Le ?_ qe.out|refine Le ?_ qf.out)|exact HB.out)) hb);clear qz;clear qa;clear qb;clear HB;have qz:=qj;have HO267:=qk;have qa:=qm;have qb:=qn;have HB:=qr;clear qj qk qm qn qr;clear hb ho11))
 repeat(go_quiet (first|((with_reducible refine gate_dst (N:=3) rfl ?_);refine box_event ?hg (N:=3) ?hd (cs:=#[.int .i64 a0_0,.int .i64 a0_1,.slice A0_2 l0_2.length c0_2]) (t:=27) ?hr ?_;(case hd=>rfl);(case hg=>rfl);(case hr=>first|(go_simp;done)|(go_simp;rfl));intro qc hg w5 hbox hb;have qj:=La (Ln (by repeat(first|(with_reducible first|exact HB.out|apply Lf|apply Ld|apply Lg)|exact HB.out)) hb);have qk:=La (hbox);have qm:=La ((by rw [hg];exact(Lm (by repeat(first|(with_reducible first|exact HB.out|apply Lf|apply Ld|apply Lg)|exact HB.out))):w.heap.size≤qc));have qn:=La ((by rw [hg];exact(Lm (by repeat(first|(with_reducible first|exact HB.out|apply Lf|apply Ld|apply Lg)|exact HB.out))):w.heap.size≤qc));clear HB;have HB:=qj;have qa:=qk;have GW260:=qm;have qe:=qn;clear qj qk qm qn;clear hb hbox hg)|((with_reducible refine gate_dst (N:=4) rfl ?_);refine box_event ?hg (N:=4) ?hd (cs:=#[.int .i64 a1_0,.int .i64 a1_1,.slice A1_2 l1_2.length c1_2]) (t:=27) ?hr ?_;(case hd=>rfl);(case hg=>rfl);(case hr=>first|(go_simp;done)|(go_simp;rfl));intro qd hg w6 hbox hb;have qj:=La (Ll (g:=qc) (o:=.cells #[.int .i64 a0_0,.int .i64 a0_1,.slice A0_2 l0_2.length c0_2] 27 (0,0)) (by(with_reducible repeat(first|refine Li ?_ _|refine Lb ?_|refine Lh ?_ _));exact qa.out) hb);have qk:=La (Ln (by repeat(first|(with_reducible first|exact HB.out|apply Lf|apply Ld|apply Lg|refine Le ?_ qe.out)|exact HB.out)) hb);have qm:=La (hbox);have qn:=La ((by rw [hg];exact(Lm (by repeat(first|(with_reducible first|exact HB.out|apply Lf|apply Ld|apply Lg|refine Le ?_ qe.out)|exact HB.out))):w.heap.size≤qd));have qr:=La ((by rw [hg];exact(Lm (by repeat(first|(with_reducible first|exact HB.out|apply Lf|apply Ld|apply Lg|refine Le ?_ qe.out)|exact HB.out))):w.heap.size≤qd));have qu:=La ((by rw [hg];exact Nat.ne_of_lt (blk_lt (g:=qc) (o:=.cells #[.int .i64 a0_0,.int .i64 a0_1,.slice A0_2 l0_2.length c0_2] 27 (0,0)) (by(with_reducible repeat(first|refine Li ?_ _|refine Lb ?_|refine Lh ?_ _));exact qa.out)):qc≠qd));have n6_:=La ((by rw [hg];exact Nat.ne_of_gt (blk_lt (g:=qc) (o:=.cells #[.int .i64 a0_0,.int .i64 a0_1,.slice A0_2 l0_2.length c0_2] 27 (0,0)) (by(with_reducible repeat(first|refine Li ?_ _|refine Lb ?_|refine Lh ?_ _));exact qa.out)):qd≠qc));clear qa;clear HB;have qa:=qj;have HB:=qk;have qb:=qm;have GW261:=qn;have qf:=qr;have qs:=qu;have qt:=n6_;clear qj qk qm qn qr qu n6_;clear hb hbox hg;have hnb7:=qt.out;have hnc7:=qs.out;have hcz8_0:w6.cell? ⟨qd,0,none⟩=some (.int .i64 a1_0):=(Lq qb.out 0).trans rfl;have hcz8_1:w6.cell? ⟨qd,1,none⟩=some (.int .i64 a1_1):=(Lq qb.out 1).trans rfl;have hcz8_2:w6.cell? ⟨qd,2,none⟩=some (.slice A1_2 l1_2.length c1_2):=(Lq qb.out 2).trans rfl;have hfz8_0:=Lp qb.out 0;have hfz8_1:=Lp qb.out 1;have hfz8_2:=Lp qb.out 2)|(go_at_call 78;(with_reducible refine(impl_Picture_at.calls k a1_0 a1_1 _ _ l1_2 a2 0 0 t262 _ ?side1 ?side2 A4.out).mono ?_);(case side1=>repeat(first|exact(Kd.C_below HR1_2.out HB.out)|(with_reducible refine Kd.C_alloc ?_ _)|(with_reducible refine Kd.C_drewN ?_ _)|(with_reducible refine Kd.C_drew ?_)));(case side2=>exact HC1_2.out);rintro e w9 ⟨v263,rfl,yd,hb⟩;have qj:=La (Kd.R_lower yd (Lm (by repeat(first|(with_reducible first|exact HB.out|apply Lf|apply Ld|apply Lg|refine Le ?_ qe.out|refine Le ?_ qf.out)|exact HB.out))));have qk:=La (Ll (g:=qc) (o:=.cells #[.int .i64 a0_0,.int .i64 a0_1,.slice A0_2 l0_2.length c0_2] 27 (0,0)) (by(with_reducible repeat(first|refine Li ?_ _|refine Lb ?_|refine Lh ?_ _));exact qa.out) hb);have qm:=La (Ll (g:=qd) (o:=.cells #[.int .i64 a1_0,.int .i64 a1_1,.slice A1_2 l1_2.length c1_2] 27 (0,0)) (by(with_reducible repeat(first|refine Li ?_ _|refine Lb ?_|refine Lh ?_ _));exact qb.out) hb);have qn:=La (Ln (by repeat(first|(with_reducible first|exact HB.out|apply Lf|apply Ld|apply Lg|refine Le ?_ qe.out|refine Le ?_ qf.out)|exact HB.out)) hb);clear qa;clear qb;clear HB;have qz:=qj;have qa:=qk;have qb:=qm;have HB:=qn;clear qj qk qm qn;(try clear hb);(try clear hb2);(try clear hk);(try clear hi);(try clear yd))|((with_reducible refine gate_dst (N:=16) rfl ?_);refine Kd.R_lit k89 _ 89 ?hg (N:=16) ?hd (xs:=([]:List (S89))) (inner:=[]) (ok:=fun _=>True) (okp:=fun _=>True) ?hr ?hp (fun _ hk=>hk) trivial (Below.refl _ _) (Nat.le_refl _) (by simp) ?_;(case hd=>rfl);(case hg=>rfl);(case hr=>first|(go_simp;done)|(go_simp;rfl));(case hp=>exact(Reps.none _ _));intro v266 w10 ho11 hb hg_ hnew_;clear hg_ hnew_;(first|rw [← yc.out] at ho11|(simp only [Int.reduceToNat] at ho11;rw [← yc.out] at ho11));have qj:=La (Lo (by(with_reducible repeat(first|apply Lj|apply Lk|apply Lc));exact qz.out) hb);have qk:=La (Kd.R_lower ho11 (Lm (by repeat(first|(with_reducible first|exact HB.out|apply Lf|apply Ld|apply Lg|refine Le ?_ qe.out|refine Le ?_ qf.out)|exact HB.out))));have qm:=La (Ll (g:=qc) (o:=.cells #[.int .i64 a0_0,.int .i64 a0_1,.slice A0_2 l0_2.length c0_2] 27 (0,0)) (by(with_reducible repeat(first|refine Li ?_ _|refine Lb ?_|refine Lh ?_ _));exact qa.out) hb);have qn:=La (Ll (g:=qd) (o:=.cells #[.int .i64 a1_0,.int .i64 a1_1,.slice A1_2 l1_2.length c1_2] 27 (0,0)) (by(with_reducible repeat(first|refine Li ?_ _|refine Lb ?_|refine Lh ?_ _));exact qb.out) hb);have qr:=La (Ln (by repeat(first|(with_reducible first|exact HB.out|apply Lf|apply Ld|apply Lg|refine Le ?_ qe.out|refine Le ?_ qf.out)|exact HB.out)) hb);clear qz;clear qa;clear qb;clear HB;have qz:=qj;have HO267:=qk;have qa:=qm;have qb:=qn;have HB:=qr;clear qj qk qm qn qr;clear hb ho11));try go_wp2_with (first|((with_reducible refine gate_dst (N:=3) rfl ?_);refine box_event ?hg (N:=3) ?hd (cs:=#[.int .i64 a0_0,.int .i64 a0_1,.slice A0_2 l0_2.length c0_2]) (t:=27) ?hr ?_;(case hd=>rfl);(case hg=>rfl);(case hr=>first|(go_simp;done)|(go_simp;rfl));intro qc hg w5 hbox hb;have qj:=La (Ln (by repeat(first|(with_reducible first|exact HB.out|apply Lf|apply Ld|apply Lg)|exact HB.out)) hb);have qk:=La (hbox);have qm:=La ((by rw [hg];exact(Lm (by repeat(first|(with_reducible first|exact HB.out|apply Lf|apply Ld|apply Lg)|exact HB.out))):w.heap.size≤qc));have qn:=La ((by rw [hg];exact(Lm (by repeat(first|(with_reducible first|exact HB.out|apply Lf|apply Ld|apply Lg)|exact HB.out))):w.heap.size≤qc));clear HB;have HB:=qj;have qa:=qk;have GW260:=qm;have qe:=qn;clear qj qk qm qn;clear hb hbox hg)|((with_reducible refine gate_dst (N:=4) rfl ?_);refine box_event ?hg (N:=4) ?hd (cs:=#[.int .i64 a1_0,.int .i64 a1_1,.slice A1_2 l1_2.length c1_2]) (t:=27) ?hr ?_;(case hd=>rfl);(case hg=>rfl);(case hr=>first|(go_simp;done)|(go_simp;rfl));intro qd hg w6 hbox hb;have qj:=La (Ll (g:=qc) (o:=.cells #[.int .i64 a0_0,.int .i64 a0_1,.slice A0_2 l0_2.length c0_2] 27 (0,0)) (by(with_reducible repeat(first|refine Li ?_ _|refine Lb ?_|refine Lh ?_ _));exact qa.out) hb);have qk:=La (Ln (by repeat(first|(with_reducible first|exact HB.out|apply Lf|apply Ld|apply Lg|refine Le ?_ qe.out)|exact HB.out)) hb);have qm:=La (hbox);have qn:=La ((by rw [hg];exact(Lm (by repeat(first|(with_reducible first|exact HB.out|apply Lf|apply Ld|apply Lg|refine Le ?_ qe.out)|exact HB.out))):w.heap.size≤qd));have qr:=La ((by rw [hg];exact(Lm (by repeat(first|(with_reducible first|exact HB.out|apply Lf|apply Ld|apply Lg|refine Le ?_ qe.out)|exact HB.out))):w.heap.size≤qd));have qu:=La ((by rw [hg];exact Nat.ne_of_lt (blk_lt (g:=qc) (o:=.cells #[.int .i64 a0_0,.int .i64 a0_1,.slice A0_2 l0_2.length c0_2] 27 (0,0)) (by(with_reducible repeat(first|refine Li ?_ _|refine Lb ?_|refine Lh ?_ _));exact qa.out)):qc≠qd));have n6_:=La ((by rw [hg];exact Nat.ne_of_gt (blk_lt (g:=qc) (o:=.cells #[.int .i64 a0_0,.int .i64 a0_1,.slice A0_2 l0_2.length c0_2] 27 (0,0)) (by(with_reducible repeat(first|refine Li ?_ _|refine Lb ?_|refine Lh ?_ _));exact qa.out)):qd≠qc));clear qa;clear HB;have qa:=qj;have HB:=qk;have qb:=qm;have GW261:=qn;have qf:=qr;have qs:=qu;have qt:=n6_;clear qj qk qm qn qr qu n6_;clear hb hbox hg;have hnb7:=qt.out;have hnc7:=qs.out;have hcz8_0:w6.cell? ⟨qd,0,none⟩=some (.int .i64 a1_0):=(Lq qb.out 0).trans rfl;have hcz8_1:w6.cell? ⟨qd,1,none⟩=some (.int .i64 a1_1):=(Lq qb.out 1).trans rfl;have hcz8_2:w6.cell? ⟨qd,2,none⟩=some (.slice A1_2 l1_2.length c1_2):=(Lq qb.out 2).trans rfl;have hfz8_0:=Lp qb.out 0;have hfz8_1:=Lp qb.out 1;have hfz8_2:=Lp qb.out 2)|(go_at_call 78;(with_reducible refine(impl_Picture_at.calls k a1_0 a1_1 _ _ l1_2 a2 0 0 t262 _ ?side1 ?side2 A4.out).mono ?_);(case side1=>repeat(first|exact(Kd.C_below HR1_2.out HB.out)|(with_reducible refine Kd.C_alloc ?_ _)|(with_reducible refine Kd.C_drewN ?_ _)|(with_reducible refine Kd.C_drew ?_)));(case side2=>exact HC1_2.out);rintro e w9 ⟨v263,rfl,yd,hb⟩;have qj:=La (Kd.R_lower yd (Lm (by repeat(first|(with_reducible first|exact HB.out|apply Lf|apply Ld|apply Lg|refine Le ?_ qe.out|refine Le ?_ qf.out)|exact HB.out))));have qk:=La (Ll (g:=qc) (o:=.cells #[.int .i64 a0_0,.int .i64 a0_1,.slice A0_2 l0_2.length c0_2] 27 (0,0)) (by(with_reducible repeat(first|refine Li ?_ _|refine Lb ?_|refine Lh ?_ _));exact qa.out) hb);have qm:=La (Ll (g:=qd) (o:=.cells #[.int .i64 a1_0,.int .i64 a1_1,.slice A1_2 l1_2.length c1_2] 27 (0,0)) (by(with_reducible repeat(first|refine Li ?_ _|refine Lb ?_|refine Lh ?_ _));exact qb.out) hb);have qn:=La (Ln (by repeat(first|(with_reducible first|exact HB.out|apply Lf|apply Ld|apply Lg|refine Le ?_ qe.out|refine Le ?_ qf.out)|exact HB.out)) hb);clear qa;clear qb;clear HB;have qz:=qj;have qa:=qk;have qb:=qm;have HB:=qn;clear qj qk qm qn;(try clear hb);(try clear hb2);(try clear hk);(try clear hi);(try clear yd))|((with_reducible refine gate_dst (N:=16) rfl ?_);refine Kd.R_lit k89 _ 89 ?hg (N:=16) ?hd (xs:=([]:List (S89))) (inner:=[]) (ok:=fun _=>True) (okp:=fun _=>True) ?hr ?hp (fun _ hk=>hk) trivial (Below.refl _ _) (Nat.le_refl _) (by simp) ?_;(case hd=>rfl);(case hg=>rfl);(case hr=>first|(go_simp;done)|(go_simp;rfl));(case hp=>exact(Reps.none _ _));intro v266 w10 ho11 hb hg_ hnew_;clear hg_ hnew_;(first|rw [← yc.out] at ho11|(simp only [Int.reduceToNat] at ho11;rw [← yc.out] at ho11));have qj:=La (Lo (by(with_reducible repeat(first|apply Lj|apply Lk|apply Lc));exact qz.out) hb);have qk:=La (Kd.R_lower ho11 (Lm (by repeat(first|(with_reducible first|exact HB.out|apply Lf|apply Ld|apply Lg|refine Le ?_ qe.out|refine Le ?_ qf.out)|exact HB.out))));have qm:=La (Ll (g:=qc) (o:=.cells #[.int .i64 a0_0,.int .i64 a0_1,.slice A0_2 l0_2.length c0_2] 27 (0,0)) (by(with_reducible repeat(first|refine Li ?_ _|refine Lb ?_|refine Lh ?_ _));exact qa.out) hb);have qn:=La (Ll (g:=qd) (o:=.cells #[.int .i64 a1_0,.int .i64 a1_1,.slice A1_2 l1_2.length c1_2] 27 (0,0)) (by(with_reducible repeat(first|refine Li ?_ _|refine Lb ?_|refine Lh ?_ _));exact qb.out) hb);have qr:=La (Ln (by repeat(first|(with_reducible first|exact HB.out|apply Lf|apply Ld|apply Lg|refine Le ?_ qe.out|refine Le ?_ qf.out)|exact HB.out)) hb);clear qz;clear qa;clear qb;clear HB;have qz:=qj;have HO267:=qk;have qa:=qm;have qb:=qn;have HB:=qr;clear qj qk qm qn qr;clear hb ho11)))
 go_loopg [9,10] k (fun kq v9 v10 w'=>∃ (x9_1:List (S89)) (qo:Int),v10=.int .i64 qo∧Aside0 (impl_motion.l0 kq a2 t262 x9_1 qo a0_0 a0_1 l0_2=some (r1,r2))∧Aside0 (kq≤k)∧Aside0 (Kd.R (Kd.int .i64) 2 w' w.heap.size (fun _=>True) v263 t262)∧Aside0 (Kd.R k89 89 w' w.heap.size (fun _=>True) v9 x9_1)∧Aside0 (w'.heap[qc]? = some (.cells #[.int .i64 a0_0,.int .i64 a0_1,(.slice A0_2 l0_2.length c0_2)] 27 (0,0)))∧Aside0 (w'.heap[qd]? = some (.cells #[.int .i64 a1_0,.int .i64 a1_1,(.slice A1_2 l1_2.length c1_2)] 27 (0,0)))∧Aside0 (Below w.heap.size w w'))
 case atStart=>exact⟨(y265),((-2)),(by first|rfl|(simp;done)|(simp [*];done)),H',⟨Nat.le_refl _⟩,⟨by(with_reducible repeat(first|apply Lj|apply Lk|apply Lc));exact qz.out⟩,⟨by(with_reducible repeat(first|apply Lj|apply Lk|apply Lc));exact HO267.out⟩,⟨by(with_reducible repeat(first|refine Li ?_ _|refine Lb ?_|refine Lh ?_ _));exact qa.out⟩,⟨by(with_reducible repeat(first|refine Li ?_ _|refine Lb ?_|refine Lh ?_ _));exact qb.out⟩,⟨by repeat(first|(with_reducible first|exact HB.out|apply Lf|apply Ld|apply Lg|refine Le ?_ qe.out|refine Le ?_ qf.out)|exact HB.out)⟩⟩
 case round=>
  clear H'
  try clear c1
  try clear p2
  try clear c7
  try clear hcz8_0
  try clear hcz8_1
  try clear hcz8_2
  try clear hfz8_0
  try clear hfz8_1
  try clear hfz8_2
  obtain⟨x9_1,qo,rfl,HA,HK1,qh,qg,qa,qb,HB⟩:=hrel
  cases gk with
  | zero => exact absurd HA.out (by simp [impl_motion.l0])
  | succ k1 =>
   have H:=HA.out
   clear HA
   simp only [impl_motion.l0] at H
   by_cases c12:qo≤2
   ·rw [if_pos c12] at H
    have c12b0:decide (qo≤2)=true:=decide_eq_true c12
    clear c12
    have H':=La H
    clear H
    go_wp2
    repeat(go_quiet (fail);try go_wp2)
    go_loopg [9,11] k1 (fun kq v9 v11 w'=>∃ (ya:List (S89)) (qp:Int),v11=.int .i64 qp∧Aside0 (impl_motion.l1 kq a2 t262 ya qo qp a0_0 a0_1 l0_2=some (r1,r2))∧Aside0 (kq≤k1)∧Aside0 (Kd.R (Kd.int .i64) 2 w' w.heap.size (fun _=>True) v263 t262)∧Aside0 (Kd.R k89 89 w' w.heap.size (fun _=>True) v9 ya)∧Aside0 (w'.heap[qc]? = some (.cells #[.int .i64 a0_0,.int .i64 a0_1,(.slice A0_2 l0_2.length c0_2)] 27 (0,0)))∧Aside0 (w'.heap[qd]? = some (.cells #[.int .i64 a1_0,.int .i64 a1_1,(.slice A1_2 l1_2.length c1_2)] 27 (0,0)))∧Aside0 (Below w.heap.size w w'))
    case atStart=>exact⟨(x9_1),((-2)),(by first|rfl|(simp;done)|(simp [*];done)),H',⟨Nat.le_refl _⟩,⟨by(with_reducible repeat(first|apply Lj|apply Lk|apply Lc));exact qh.out⟩,⟨by(with_reducible repeat(first|apply Lj|apply Lk|apply Lc));exact qg.out⟩,⟨by(with_reducible repeat(first|refine Li ?_ _|refine Lb ?_|refine Lh ?_ _));exact qa.out⟩,⟨by(with_reducible repeat(first|refine Li ?_ _|refine Lb ?_|refine Lh ?_ _));exact qb.out⟩,⟨by repeat(first|(with_reducible first|exact HB.out|apply Lf|apply Ld|apply Lg|refine Le ?_ qe.out|refine Le ?_ qf.out)|exact HB.out)⟩⟩
    case round=>
     clear H'
     try clear c1
     try clear p2
     try clear c7
     try clear c12
     try clear c12b0
     try clear hcz8_0
     try clear hcz8_1
     try clear hcz8_2
     try clear hfz8_0
     try clear hfz8_1
     try clear hfz8_2
     try clear p2
     obtain⟨ya,qp,rfl,HA,HK2,qh,qg,qa,qb,HB⟩:=hrel
     cases gk with
     | zero => exact absurd HA.out (by simp [impl_motion.l1])
     | succ k2 =>
      have H:=HA.out
      clear HA
      simp only [impl_motion.l1] at H
      by_cases c13:qp≤2
      ·rw [if_pos c13] at H
       have c13b0:decide (qp≤2)=true:=decide_eq_true c13
       clear c13
       replace H:=Option.bind_eq_some_iff.mp H
       obtain⟨t272,A140,H⟩:=H
       replace H:((impl_offBy.f k2 t262 t272).bind fun t275=>(if ya.length < 5864062014805 then (impl_motion.l1 k2 a2 t262 (ya ++ [(⟨t275,qp,qo⟩:S89)]) qo (wrap64 (qp+1)) a0_0 a0_1 l0_2) else (none)))=some (r1,r2):=H
       have A14:=La A140
       clear A140
       replace H:=Option.bind_eq_some_iff.mp H
       obtain⟨t275,A150,H⟩:=H
       replace H:(if ya.length < 5864062014805 then (impl_motion.l1 k2 a2 t262 (ya ++ [(⟨t275,qp,qo⟩:S89)]) qo (wrap64 (qp+1)) a0_0 a0_1 l0_2) else (none))=some (r1,r2):=H
       have A15:=La A150
       clear A150
       by_cases c16:ya.length < 5864062014805
       ·rw [if_pos c16] at H
        have LMc16:=La c16
        clear c16
        obtain⟨y276,hy276⟩:∃ y_:List (S89),y_=(ya ++ [(⟨t275,qp,qo⟩:S89)]):=⟨_,rfl⟩
        replace H:(impl_motion.l1 k2 a2 t262 y276 qo (wrap64 (qp+1)) a0_0 a0_1 l0_2)=some (r1,r2):=by first|(rw [hy276];with_reducible exact H)|(have yb:=(Option.bind_some _ _).symm.trans H;rw [hy276];with_reducible exact yb)|(have yb:=(Option.bind_some _ _).symm.trans H;with_reducible exact yb)|with_reducible exact H|(rw [hy276];exact H)|exact H
        have Ny276:=La hy276
        clear hy276
        have H':=La H
        clear H
        have hnb17:=qs.out
        have hnc17:=qt.out
        have hcz18_0:wr.cell? ⟨qc,0,none⟩=some (.int .i64 a0_0):=(Lq qa.out 0).trans rfl
        have hcz18_1:wr.cell? ⟨qc,1,none⟩=some (.int .i64 a0_1):=(Lq qa.out 1).trans rfl
        have hcz18_2:wr.cell? ⟨qc,2,none⟩=some (.slice A0_2 l0_2.length c0_2):=(Lq qa.out 2).trans rfl
        have hfz18_0:=Lp qa.out 0
        have hfz18_1:=Lp qa.out 1
        have hfz18_2:=Lp qa.out 2
        go_wp2_with (first|(go_at_call 78;(with_reducible refine(impl_Picture_at.calls k2 a0_0 a0_1 _ _ l0_2 a2 qp qo t272 _ ?side1 ?side2 A14.out).mono ?_);(case side1=>repeat(first|exact(Kd.C_below HR0_2.out HB.out)|(with_reducible refine Kd.C_alloc ?_ _)|(with_reducible refine Kd.C_drewN ?_ _)|(with_reducible refine Kd.C_drew ?_)));(case side2=>exact HC0_2.out);rintro e w19 ⟨v273,rfl,yd,hb⟩;have qj:=La (Kd.R_elder' (by(with_reducible repeat(first|apply Lj|apply Lk|apply Lc));exact qh.out) (Kd.R_base yd) hb);have qk:=La (Lo (by(with_reducible repeat(first|apply Lj|apply Lk|apply Lc));exact qg.out) hb);have qm:=La (Kd.R_lower (Kd.R_new' yd (Kd.R_lt (by(with_reducible repeat(first|apply Lj|apply Lk|apply Lc));exact qh.out))) (Lm (by repeat(first|(with_reducible first|exact HB.out|apply Lf|apply Ld|apply Lg|refine Le ?_ qe.out|refine Le ?_ qf.out)|exact HB.out))));have qn:=La (Ll (g:=qc) (o:=.cells #[.int .i64 a0_0,.int .i64 a0_1,.slice A0_2 l0_2.length c0_2] 27 (0,0)) (by(with_reducible repeat(first|refine Li ?_ _|refine Lb ?_|refine Lh ?_ _));exact qa.out) hb);have qr:=La (Ll (g:=qd) (o:=.cells #[.int .i64 a1_0,.int .i64 a1_1,.slice A1_2 l1_2.length c1_2] 27 (0,0)) (by(with_reducible repeat(first|refine Li ?_ _|refine Lb ?_|refine Lh ?_ _));exact qb.out) hb);have qu:=La (Ln (by repeat(first|(with_reducible first|exact HB.out|apply Lf|apply Ld|apply Lg|refine Le ?_ qe.out|refine Le ?_ qf.out)|exact HB.out)) hb);clear qh;clear qg;clear qa;clear qb;clear HB;have qh:=qj;have qg:=qk;have ql:=qm;have qa:=qn;have qb:=qr;have HB:=qu;clear qj qk qm qn qr qu;(try clear hb);(try clear hb2);(try clear hk);(try clear hi);(try clear yd);obtain⟨Ao20,co20,eo20⟩:=Kd.R_slice qh.out;subst eo20;obtain⟨Ao21,co21,eo21⟩:=Kd.R_slice ql.out;subst eo21)|(go_at_call 87;(with_reducible refine(impl_offBy.calls k2 _ _ t262 _ _ t272 t275 _ ?side1 ?side2 ?side3 ?side4 A15.out).mono ?_);(case side1=>repeat(first|exact(Lr qh.out).2.2|(with_reducible refine Kd.C_alloc ?_ _)|(with_reducible refine Kd.C_drewN ?_ _)|(with_reducible refine Kd.C_drew ?_)));(case side2=>exact(Lr qh.out).2.1);(case side3=>repeat(first|exact(Lr ql.out).2.2|(with_reducible refine Kd.C_alloc ?_ _)|(with_reducible refine Kd.C_drewN ?_ _)|(with_reducible refine Kd.C_drew ?_)));(case side4=>exact(Lr ql.out).2.1);rintro e w22 ⟨rfl,hb⟩;have qj:=La (Lo (by(with_reducible repeat(first|apply Lj|apply Lk|apply Lc));exact qh.out) hb);have qk:=La (Lo (by(with_reducible repeat(first|apply Lj|apply Lk|apply Lc));exact qg.out) hb);have qm:=La (Lo (by(with_reducible repeat(first|apply Lj|apply Lk|apply Lc));exact ql.out) hb);have qn:=La (Ll (g:=qc) (o:=.cells #[.int .i64 a0_0,.int .i64 a0_1,.slice A0_2 l0_2.length c0_2] 27 (0,0)) (by(with_reducible repeat(first|refine Li ?_ _|refine Lb ?_|refine Lh ?_ _));exact qa.out) hb);have qr:=La (Ll (g:=qd) (o:=.cells #[.int .i64 a1_0,.int .i64 a1_1,.slice A1_2 l1_2.length c1_2] 27 (0,0)) (by(with_reducible repeat(first|refine Li ?_ _|refine Lb ?_|refine Lh ?_ _));exact qb.out) hb);have qu:=La (Ln (by repeat(first|(with_reducible first|exact HB.out|apply Lf|apply Ld|apply Lg|refine Le ?_ qe.out|refine Le ?_ qf.out)|exact HB.out)) hb);clear qh;clear qg;clear ql;clear qa;clear qb;clear HB;have qh:=qj;have qg:=qk;have ql:=qm;have qa:=qn;have qb:=qr;have HB:=qu;clear qj qk qm qn qr qu;(try clear hb);(try clear hb2);(try clear hk);(try clear hi))|((with_reducible refine gate_builtin (b:=.append) (xs:=#[.tmp 25,.tmp 36]) rfl ?_);at_builtin;refine Kd.R_append k89 (w0:=w) w.heap.size rfl (.tmp 25) (.tmp 36) 86 89 (.agg #[(.int .i64 0),(.int .i64 0),(.int .i64 0)]) 24 rfl Try.underlying86 info89 rfl (by decide) (by omega) u9 ya (⟨t275,qp,qo⟩:S89) [.int .i64 t275,.int .i64 qp,.int .i64 qo] (fun _=>True) (fun _=>False) rfl rfl ?aP (fun _ hk=>hk.elim) ?aF ?aO ?aB ?aS ?aL ?_;(case aP=>exact k89_mkM _ _ _ (⟨t275,qp,qo⟩:S89));(case aB=>exact(by repeat(first|(with_reducible first|exact HB.out|apply Lf|apply Ld|apply Lg|refine Le ?_ qe.out|refine Le ?_ qf.out)|exact HB.out)));(case aF=>exact(fun _ _=>trivial));(case aO=>exact(by(with_reducible repeat(first|apply Lj|apply Lk|apply Lc));exact qg.out));(case aS=>exact(Lm (by repeat(first|(with_reducible first|exact HB.out|apply Lf|apply Ld|apply Lg|refine Le ?_ qe.out|refine Le ?_ qf.out)|exact HB.out))));(case aL=>have:=LMc16.out;omega);intro v277 w23 ho hb hg hat;rw [← Ny276.out] at ho;have qj:=La (Kd.R_over' (by(with_reducible repeat(first|apply Lj|apply Lk|apply Lc));exact qh.out) (Kd.R_typed (by(with_reducible repeat(first|apply Lj|apply Lk|apply Lc));exact qg.out)) (by decide) hg);have qk:=La (blk_grown (g:=qc) (o:=.cells #[.int .i64 a0_0,.int .i64 a0_1,.slice A0_2 l0_2.length c0_2] 27 (0,0)) (by(with_reducible repeat(first|refine Li ?_ _|refine Lb ?_|refine Lh ?_ _));exact qa.out) hg (Kd.R_ne qg.out qa.out (by decide)));have qm:=La (blk_grown (g:=qd) (o:=.cells #[.int .i64 a1_0,.int .i64 a1_1,.slice A1_2 l1_2.length c1_2] 27 (0,0)) (by(with_reducible repeat(first|refine Li ?_ _|refine Lb ?_|refine Lh ?_ _));exact qb.out) hg (Kd.R_ne qg.out qb.out (by decide)));have qn:=La (Kd.R_over' (by(with_reducible repeat(first|apply Lj|apply Lk|apply Lc));exact ql.out) (Kd.R_typed (by(with_reducible repeat(first|apply Lj|apply Lk|apply Lc));exact qg.out)) (by decide) hg);have qr:=La (hb);have qu:=La (ho);clear qh;clear qa;clear qb;clear ql;clear HB;clear qg;have qh:=qj;have qa:=qk;have qb:=qm;have ql:=qn;have HB:=qr;have HO278:=qu;clear qj qk qm qn qr qu;clear ho hb hg hat))
        repeat(go_quiet (first|(go_at_call 78;(with_reducible refine(impl_Picture_at.calls k2 a0_0 a0_1 _ _ l0_2 a2 qp qo t272 _ ?side1 ?side2 A14.out).mono ?_);(case side1=>repeat(first|exact(Kd.C_below HR0_2.out HB.out)|(with_reducible refine Kd.C_alloc ?_ _)|(with_reducible refine Kd.C_drewN ?_ _)|(with_reducible refine Kd.C_drew ?_)));(case side2=>exact HC0_2.out);rintro e w19 ⟨v273,rfl,yd,hb⟩;have qj:=La (Kd.R_elder' (by(with_reducible repeat(first|apply Lj|apply Lk|apply Lc));exact qh.out) (Kd.R_base yd) hb);have qk:=La (Lo (by(with_reducible repeat(first|apply Lj|apply Lk|apply Lc));exact qg.out) hb);have qm:=La (Kd.R_lower (Kd.R_new' yd (Kd.R_lt (by(with_reducible repeat(first|apply Lj|apply Lk|apply Lc));exact qh.out))) (Lm (by repeat(first|(with_reducible first|exact HB.out|apply Lf|apply Ld|apply Lg|refine Le ?_ qe.out|refine Le ?_ qf.out)|exact HB.out))));have qn:=La (Ll (g:=qc) (o:=.cells #[.int .i64 a0_0,.int .i64 a0_1,.slice A0_2 l0_2.length c0_2] 27 (0,0)) (by(with_reducible repeat(first|refine Li ?_ _|refine Lb ?_|refine Lh ?_ _));exact qa.out) hb);have qr:=La (Ll (g:=qd) (o:=.cells #[.int .i64 a1_0,.int .i64 a1_1,.slice A1_2 l1_2.length c1_2] 27 (0,0)) (by(with_reducible repeat(first|refine Li ?_ _|refine Lb ?_|refine Lh ?_ _));exact qb.out) hb);have qu:=La (Ln (by repeat(first|(with_reducible first|exact HB.out|apply Lf|apply Ld|apply Lg|refine Le ?_ qe.out|refine Le ?_ qf.out)|exact HB.out)) hb);clear qh;clear qg;clear qa;clear qb;clear HB;have qh:=qj;have qg:=qk;have ql:=qm;have qa:=qn;have qb:=qr;have HB:=qu;clear qj qk qm qn qr qu;(try clear hb);(try clear hb2);(try clear hk);(try clear hi);(try clear yd);obtain⟨Ao20,co20,eo20⟩:=Kd.R_slice qh.out;subst eo20;obtain⟨Ao21,co21,eo21⟩:=Kd.R_slice ql.out;subst eo21)|(go_at_call 87;(with_reducible refine(impl_offBy.calls k2 _ _ t262 _ _ t272 t275 _ ?side1 ?side2 ?side3 ?side4 A15.out).mono ?_);(case side1=>repeat(first|exact(Lr qh.out).2.2|(with_reducible refine Kd.C_alloc ?_ _)|(with_reducible refine Kd.C_drewN ?_ _)|(with_reducible refine Kd.C_drew ?_)));(case side2=>exact(Lr qh.out).2.1);(case side3=>repeat(first|exact(Lr ql.out).2.2|(with_reducible refine Kd.C_alloc ?_ _)|(with_reducible refine Kd.C_drewN ?_ _)|(with_reducible refine Kd.C_drew ?_)));(case side4=>exact(Lr ql.out).2.1);rintro e w22 ⟨rfl,hb⟩;have qj:=La (Lo (by(with_reducible repeat(first|apply Lj|apply Lk|apply Lc));exact qh.out) hb);have qk:=La (Lo (by(with_reducible repeat(first|apply Lj|apply Lk|apply Lc));exact qg.out) hb);have qm:=La (Lo (by(with_reducible repeat(first|apply Lj|apply Lk|apply Lc));exact ql.out) hb);have qn:=La (Ll (g:=qc) (o:=.cells #[.int .i64 a0_0,.int .i64 a0_1,.slice A0_2 l0_2.length c0_2] 27 (0,0)) (by(with_reducible repeat(first|refine Li ?_ _|refine Lb ?_|refine Lh ?_ _));exact qa.out) hb);have qr:=La (Ll (g:=qd) (o:=.cells #[.int .i64 a1_0,.int .i64 a1_1,.slice A1_2 l1_2.length c1_2] 27 (0,0)) (by(with_reducible repeat(first|refine Li ?_ _|refine Lb ?_|refine Lh ?_ _));exact qb.out) hb);have qu:=La (Ln (by repeat(first|(with_reducible first|exact HB.out|apply Lf|apply Ld|apply Lg|refine Le ?_ qe.out|refine Le ?_ qf.out)|exact HB.out)) hb);clear qh;clear qg;clear ql;clear qa;clear qb;clear HB;have qh:=qj;have qg:=qk;have ql:=qm;have qa:=qn;have qb:=qr;have HB:=qu;clear qj qk qm qn qr qu;(try clear hb);(try clear hb2);(try clear hk);(try clear hi))|((with_reducible refine gate_builtin (b:=.append) (xs:=#[.tmp 25,.tmp 36]) rfl ?_);at_builtin;refine Kd.R_append k89 (w0:=w) w.heap.size rfl (.tmp 25) (.tmp 36) 86 89 (.agg #[(.int .i64 0),(.int .i64 0),(.int .i64 0)]) 24 rfl Try.underlying86 info89 rfl (by decide) (by omega) u9 ya (⟨t275,qp,qo⟩:S89) [.int .i64 t275,.int .i64 qp,.int .i64 qo] (fun _=>True) (fun _=>False) rfl rfl ?aP (fun _ hk=>hk.elim) ?aF ?aO ?aB ?aS ?aL ?_;(case aP=>exact k89_mkM _ _ _ (⟨t275,qp,qo⟩:S89));(case aB=>exact(by repeat(first|(with_reducible first|exact HB.out|apply Lf|apply Ld|apply Lg|refine Le ?_ qe.out|refine Le ?_ qf.out)|exact HB.out)));(case aF=>exact(fun _ _=>trivial));(case aO=>exact(by(with_reducible repeat(first|apply Lj|apply Lk|apply Lc));exact qg.out));(case aS=>exact(Lm (by repeat(first|(with_reducible first|exact HB.out|apply Lf|apply Ld|apply Lg|refine Le ?_ qe.out|refine Le ?_ qf.out)|exact HB.out))));(case aL=>have:=LMc16.out;omega);intro v277 w23 ho hb hg hat;rw [← Ny276.out] at ho;have qj:=La (Kd.R_over' (by(with_reducible repeat(first|apply Lj|apply Lk|apply Lc));exact qh.out) (Kd.R_typed (by(with_reducible repeat(first|apply Lj|apply Lk|apply Lc));exact qg.out)) (by decide) hg);have qk:=La (blk_grown (g:=qc) (o:=.cells #[.int .i64 a0_0,.int .i64 a0_1,.slice A0_2 l0_2.length c0_2] 27 (0,0)) (by(with_reducible repeat(first|refine Li ?_ _|refine Lb ?_|refine Lh ?_ _));exact qa.out) hg (Kd.R_ne qg.out qa.out (by decide)));have qm:=La (blk_grown (g:=qd) (o:=.cells #[.int .i64 a1_0,.int .i64 a1_1,.slice A1_2 l1_2.length c1_2] 27 (0,0)) (by(with_reducible repeat(first|refine Li ?_ _|refine Lb ?_|refine Lh ?_ _));exact qb.out) hg (Kd.R_ne qg.out qb.out (by decide)));have qn:=La (Kd.R_over' (by(with_reducible repeat(first|apply Lj|apply Lk|apply Lc));exact ql.out) (Kd.R_typed (by(with_reducible repeat(first|apply Lj|apply Lk|apply Lc));exact qg.out)) (by decide) hg);have qr:=La (hb);have qu:=La (ho);clear qh;clear qa;clear qb;clear ql;clear HB;clear qg;have qh:=qj;have qa:=qk;have qb:=qm;have ql:=qn;have HB:=qr;have HO278:=qu;clear qj qk qm qn qr qu;clear ho hb hg hat));try go_wp2_with (first|(go_at_call 78;(with_reducible refine(impl_Picture_at.calls k2 a0_0 a0_1 _ _ l0_2 a2 qp qo t272 _ ?side1 ?side2 A14.out).mono ?_);(case side1=>repeat(first|exact(Kd.C_below HR0_2.out HB.out)|(with_reducible refine Kd.C_alloc ?_ _)|(with_reducible refine Kd.C_drewN ?_ _)|(with_reducible refine Kd.C_drew ?_)));(case side2=>exact HC0_2.out);rintro e w19 ⟨v273,rfl,yd,hb⟩;have qj:=La (Kd.R_elder' (by(with_reducible repeat(first|apply Lj|apply Lk|apply Lc));exact qh.out) (Kd.R_base yd) hb);have qk:=La (Lo (by(with_reducible repeat(first|apply Lj|apply Lk|apply Lc));exact qg.out) hb);have qm:=La (Kd.R_lower (Kd.R_new' yd (Kd.R_lt (by(with_reducible repeat(first|apply Lj|apply Lk|apply Lc));exact qh.out))) (Lm (by repeat(first|(with_reducible first|exact HB.out|apply Lf|apply Ld|apply Lg|refine Le ?_ qe.out|refine Le ?_ qf.out)|exact HB.out))));have qn:=La (Ll (g:=qc) (o:=.cells #[.int .i64 a0_0,.int .i64 a0_1,.slice A0_2 l0_2.length c0_2] 27 (0,0)) (by(with_reducible repeat(first|refine Li ?_ _|refine Lb ?_|refine Lh ?_ _));exact qa.out) hb);have qr:=La (Ll (g:=qd) (o:=.cells #[.int .i64 a1_0,.int .i64 a1_1,.slice A1_2 l1_2.length c1_2] 27 (0,0)) (by(with_reducible repeat(first|refine Li ?_ _|refine Lb ?_|refine Lh ?_ _));exact qb.out) hb);have qu:=La (Ln (by repeat(first|(with_reducible first|exact HB.out|apply Lf|apply Ld|apply Lg|refine Le ?_ qe.out|refine Le ?_ qf.out)|exact HB.out)) hb);clear qh;clear qg;clear qa;clear qb;clear HB;have qh:=qj;have qg:=qk;have ql:=qm;have qa:=qn;have qb:=qr;have HB:=qu;clear qj qk qm qn qr qu;(try clear hb);(try clear hb2);(try clear hk);(try clear hi);(try clear yd);obtain⟨Ao20,co20,eo20⟩:=Kd.R_slice qh.out;subst eo20;obtain⟨Ao21,co21,eo21⟩:=Kd.R_slice ql.out;subst eo21)|(go_at_call 87;(with_reducible refine(impl_offBy.calls k2 _ _ t262 _ _ t272 t275 _ ?side1 ?side2 ?side3 ?side4 A15.out).mono ?_);(case side1=>repeat(first|exact(Lr qh.out).2.2|(with_reducible refine Kd.C_alloc ?_ _)|(with_reducible refine Kd.C_drewN ?_ _)|(with_reducible refine Kd.C_drew ?_)));(case side2=>exact(Lr qh.out).2.1);(case side3=>repeat(first|exact(Lr ql.out).2.2|(with_reducible refine Kd.C_alloc ?_ _)|(with_reducible refine Kd.C_drewN ?_ _)|(with_reducible refine Kd.C_drew ?_)));(case side4=>exact(Lr ql.out).2.1);rintro e w22 ⟨rfl,hb⟩;have qj:=La (Lo (by(with_reducible repeat(first|apply Lj|apply Lk|apply Lc));exact qh.out) hb);have qk:=La (Lo (by(with_reducible repeat(first|apply Lj|apply Lk|apply Lc));exact qg.out) hb);have qm:=La (Lo (by(with_reducible repeat(first|apply Lj|apply Lk|apply Lc));exact ql.out) hb);have qn:=La (Ll (g:=qc) (o:=.cells #[.int .i64 a0_0,.int .i64 a0_1,.slice A0_2 l0_2.length c0_2] 27 (0,0)) (by(with_reducible repeat(first|refine Li ?_ _|refine Lb ?_|refine Lh ?_ _));exact qa.out) hb);have qr:=La (Ll (g:=qd) (o:=.cells #[.int .i64 a1_0,.int .i64 a1_1,.slice A1_2 l1_2.length c1_2] 27 (0,0)) (by(with_reducible repeat(first|refine Li ?_ _|refine Lb ?_|refine Lh ?_ _));exact qb.out) hb);have qu:=La (Ln (by repeat(first|(with_reducible first|exact HB.out|apply Lf|apply Ld|apply Lg|refine Le ?_ qe.out|refine Le ?_ qf.out)|exact HB.out)) hb);clear qh;clear qg;clear ql;clear qa;clear qb;clear HB;have qh:=qj;have qg:=qk;have ql:=qm;have qa:=qn;have qb:=qr;have HB:=qu;clear qj qk qm qn qr qu;(try clear hb);(try clear hb2);(try clear hk);(try clear hi))|((with_reducible refine gate_builtin (b:=.append) (xs:=#[.tmp 25,.tmp 36]) rfl ?_);at_builtin;refine Kd.R_append k89 (w0:=w) w.heap.size rfl (.tmp 25) (.tmp 36) 86 89 (.agg #[(.int .i64 0),(.int .i64 0),(.int .i64 0)]) 24 rfl Try.underlying86 info89 rfl (by decide) (by omega) u9 ya (⟨t275,qp,qo⟩:S89) [.int .i64 t275,.int .i64 qp,.int .i64 qo] (fun _=>True) (fun _=>False) rfl rfl ?aP (fun _ hk=>hk.elim) ?aF ?aO ?aB ?aS ?aL ?_;(case aP=>exact k89_mkM _ _ _ (⟨t275,qp,qo⟩:S89));(case aB=>exact(by repeat(first|(with_reducible first|exact HB.out|apply Lf|apply Ld|apply Lg|refine Le ?_ qe.out|refine Le ?_ qf.out)|exact HB.out)));(case aF=>exact(fun _ _=>trivial));(case aO=>exact(by(with_reducible repeat(first|apply Lj|apply Lk|apply Lc));exact qg.out));(case aS=>exact(Lm (by repeat(first|(with_reducible first|exact HB.out|apply Lf|apply Ld|apply Lg|refine Le ?_ qe.out|refine Le ?_ qf.out)|exact HB.out))));(case aL=>have:=LMc16.out;omega);intro v277 w23 ho hb hg hat;rw [← Ny276.out] at ho;have qj:=La (Kd.R_over' (by(with_reducible repeat(first|apply Lj|apply Lk|apply Lc));exact qh.out) (Kd.R_typed (by(with_reducible repeat(first|apply Lj|apply Lk|apply Lc));exact qg.out)) (by decide) hg);have qk:=La (blk_grown (g:=qc) (o:=.cells #[.int .i64 a0_0,.int .i64 a0_1,.slice A0_2 l0_2.length c0_2] 27 (0,0)) (by(with_reducible repeat(first|refine Li ?_ _|refine Lb ?_|refine Lh ?_ _));exact qa.out) hg (Kd.R_ne qg.out qa.out (by decide)));have qm:=La (blk_grown (g:=qd) (o:=.cells #[.int .i64 a1_0,.int .i64 a1_1,.slice A1_2 l1_2.length c1_2] 27 (0,0)) (by(with_reducible repeat(first|refine Li ?_ _|refine Lb ?_|refine Lh ?_ _));exact qb.out) hg (Kd.R_ne qg.out qb.out (by decide)));have qn:=La (Kd.R_over' (by(with_reducible repeat(first|apply Lj|apply Lk|apply Lc));exact ql.out) (Kd.R_typed (by(with_reducible repeat(first|apply Lj|apply Lk|apply Lc));exact qg.out)) (by decide) hg);have qr:=La (hb);have qu:=La (ho);clear qh;clear qa;clear qb;clear ql;clear HB;clear qg;have qh:=qj;have qa:=qk;have qb:=qm;have ql:=qn;have HB:=qr;have HO278:=qu;clear qj qk qm qn qr qu;clear ho hb hg hat)))
        go_roundg k2
        case measure=>have:=HK1.out;have:=HK2.out;omega
        case rel=>exact⟨(y276),(wrap64 (qp+1)),(by first|rfl|(simp;done)|(simp [*];done)),H',⟨by have:=HK1.out;have:=HK2.out;omega⟩,⟨by(with_reducible repeat(first|apply Lj|apply Lk|apply Lc));exact Kd.R_mono qh.out (fun _ hk=>trivial)⟩,⟨by(with_reducible repeat(first|apply Lj|apply Lk|apply Lc));exact HO278.out⟩,⟨by(with_reducible repeat(first|refine Li ?_ _|refine Lb ?_|refine Lh ?_ _));exact qa.out⟩,⟨by(with_reducible repeat(first|refine Li ?_ _|refine Lb ?_|refine Lh ?_ _));exact qb.out⟩,⟨by repeat(first|(with_reducible first|exact HB.out|apply Lf|apply Ld|apply Lg|refine Le ?_ qe.out|refine Le ?_ qf.out)|exact HB.out)⟩⟩
       ·rw [if_neg c16] at H
        exact absurd H (by simp)
      ·rw [if_neg c13] at H
       have c13b0:decide (qp≤2)=false:=decide_eq_false c13
       clear c13
       have H':=La H
       clear H
       go_wp2
       repeat(go_quiet (fail);try go_wp2)
       go_roundg k2
       case measure=>have:=HK1.out;have:=HK2.out;omega
       case rel=>exact⟨(ya),(wrap64 (qo+1)),(by first|rfl|(simp;done)|(simp [*];done)),H',⟨by have:=HK1.out;have:=HK2.out;omega⟩,⟨by(with_reducible repeat(first|apply Lj|apply Lk|apply Lc));exact qh.out⟩,⟨by(with_reducible repeat(first|apply Lj|apply Lk|apply Lc));exact qg.out⟩,⟨by(with_reducible repeat(first|refine Li ?_ _|refine Lb ?_|refine Lh ?_ _));exact qa.out⟩,⟨by(with_reducible repeat(first|refine Li ?_ _|refine Lb ?_|refine Lh ?_ _));exact qb.out⟩,⟨by repeat(first|(with_reducible first|exact HB.out|apply Lf|apply Ld|apply Lg|refine Le ?_ qe.out|refine Le ?_ qf.out)|exact HB.out)⟩⟩
   ·rw [if_neg c12] at H
    have c12b0:decide (qo≤2)=false:=decide_eq_false c12
    clear c12
    replace H:=Option.bind_eq_some_iff.mp H
    obtain⟨⟨t268,t269,t270⟩,A240,H⟩:=H
    replace H:(some (t269,t270))=some (r1,r2):=H
    have A24:=La A240
    clear A240
    simp only [Option.some.injEq,Prod.mk.injEq] at H
    obtain⟨rfl,rfl⟩:=H
    obtain⟨Ao25,co25,eo25⟩:=Kd.R_slice qg.out
    subst eo25
    go_wp2_with (first|(go_at_call 88;(with_reducible refine(impl_motion_min.calls k1 _ _ x9_1 t268 t269 t270 _ ?side1 ?side2 A24.out).mono ?_);(case side1=>repeat(first|exact(Lr qg.out).2.2|(with_reducible refine Kd.C_alloc ?_ _)|(with_reducible refine Kd.C_drewN ?_ _)|(with_reducible refine Kd.C_drew ?_)));(case side2=>exact(Lr qg.out).2.1);rintro e w26 ⟨rfl,hb⟩;have qj:=La (Lo (by(with_reducible repeat(first|apply Lj|apply Lk|apply Lc));exact qh.out) hb);have qk:=La (Lo (by(with_reducible repeat(first|apply Lj|apply Lk|apply Lc));exact qg.out) hb);have qm:=La (Ll (g:=qc) (o:=.cells #[.int .i64 a0_0,.int .i64 a0_1,.slice A0_2 l0_2.length c0_2] 27 (0,0)) (by(with_reducible repeat(first|refine Li ?_ _|refine Lb ?_|refine Lh ?_ _));exact qa.out) hb);have qn:=La (Ll (g:=qd) (o:=.cells #[.int .i64 a1_0,.int .i64 a1_1,.slice A1_2 l1_2.length c1_2] 27 (0,0)) (by(with_reducible repeat(first|refine Li ?_ _|refine Lb ?_|refine Lh ?_ _));exact qb.out) hb);have qr:=La (Ln (by repeat(first|(with_reducible first|exact HB.out|apply Lf|apply Ld|apply Lg|refine Le ?_ qe.out|refine Le ?_ qf.out)|exact HB.out)) hb);clear qh;clear qg;clear qa;clear qb;clear HB;have qh:=qj;have qg:=qk;have qa:=qm;have qb:=qn;have HB:=qr;clear qj qk qm qn qr;(try clear hb);(try clear hb2);(try clear hk);(try clear hi))|((with_reducible refine gate_dst (N:=12) rfl ?_);refine box_event ?hg (N:=12) ?hd (cs:=#[.int .i64 0,.int .i64 0,.int .i64 0]) (t:=89) ?hr ?_;(case hd=>rfl);(case hg=>rfl);(case hr=>first|(go_simp;done)|(go_simp;rfl));intro qi hg w27 hbox hb;have qj:=La (Lo (by(with_reducible repeat(first|apply Lj|apply Lk|apply Lc));exact qh.out) hb);have qk:=La (Lo (Kd.R_elderB (by(with_reducible repeat(first|apply Lj|apply Lk|apply Lc));exact qg.out) qi (Nat.le_of_eq hg.symm)) hb);have qm:=La (Ll (g:=qc) (o:=.cells #[.int .i64 a0_0,.int .i64 a0_1,.slice A0_2 l0_2.length c0_2] 27 (0,0)) (by(with_reducible repeat(first|refine Li ?_ _|refine Lb ?_|refine Lh ?_ _));exact qa.out) hb);have qn:=La (Ll (g:=qd) (o:=.cells #[.int .i64 a1_0,.int .i64 a1_1,.slice A1_2 l1_2.length c1_2] 27 (0,0)) (by(with_reducible repeat(first|refine Li ?_ _|refine Lb ?_|refine Lh ?_ _));exact qb.out) hb);have qr:=La (Ln (by repeat(first|(with_reducible first|exact HB.out|apply Lf|apply Ld|apply Lg|refine Le ?_ qe.out|refine Le ?_ qf.out)|exact HB.out)) hb);have qu:=La (hbox);have n6_:=La ((by rw [hg];exact(Lm (by repeat(first|(with_reducible first|exact HB.out|apply Lf|apply Ld|apply Lg|refine Le ?_ qe.out|refine Le ?_ qf.out)|exact HB.out))):w.heap.size≤qi));have n7_:=La ((by rw [hg];exact(Lm (by repeat(first|(with_reducible first|exact HB.out|apply Lf|apply Ld|apply Lg|refine Le ?_ qe.out|refine Le ?_ qf.out)|exact HB.out))):w.heap.size≤qi));have n8_:=La ((by rw [hg];exact Nat.ne_of_lt (blk_lt (g:=qc) (o:=.cells #[.int .i64 a0_0,.int .i64 a0_1,.slice A0_2 l0_2.length c0_2] 27 (0,0)) (by(with_reducible repeat(first|refine Li ?_ _|refine Lb ?_|refine Lh ?_ _));exact qa.out)):qc≠qi));have n9_:=La ((by rw [hg];exact Nat.ne_of_gt (blk_lt (g:=qc) (o:=.cells #[.int .i64 a0_0,.int .i64 a0_1,.slice A0_2 l0_2.length c0_2] 27 (0,0)) (by(with_reducible repeat(first|refine Li ?_ _|refine Lb ?_|refine Lh ?_ _));exact qa.out)):qi≠qc));have n10_:=La ((by rw [hg];exact Nat.ne_of_lt (blk_lt (g:=qd) (o:=.cells #[.int .i64 a1_0,.int .i64 a1_1,.slice A1_2 l1_2.length c1_2] 27 (0,0)) (by(with_reducible repeat(first|refine Li ?_ _|refine Lb ?_|refine Lh ?_ _));exact qb.out)):qd≠qi));have n11_:=La ((by rw [hg];exact Nat.ne_of_gt (blk_lt (g:=qd) (o:=.cells #[.int .i64 a1_0,.int .i64 a1_1,.slice A1_2 l1_2.length c1_2] 27 (0,0)) (by(with_reducible repeat(first|refine Li ?_ _|refine Lb ?_|refine Lh ?_ _));exact qb.out)):qi≠qd));clear qh;clear qg;clear qa;clear qb;clear HB;have qh:=qj;have qg:=qk;have qa:=qm;have qb:=qn;have HB:=qr;have qq:=qu;have GW271:=n6_;have GE271:=n7_;have qv:=n8_;have qx:=n9_;have qw:=n10_;have qy:=n11_;clear qj qk qm qn qr qu n6_ n7_ n8_ n9_ n10_ n11_;clear hb hbox hg;have hnb28:=qx.out;have hnc28:=qv.out;have hnb29:=qy.out;have hnc29:=qw.out;have hcz30_0:w27.cell? ⟨qi,0,none⟩=some (.int .i64 0):=(Lq qq.out 0).trans rfl;have hcz30_1:w27.cell? ⟨qi,1,none⟩=some (.int .i64 0):=(Lq qq.out 1).trans rfl;have hcz30_2:w27.cell? ⟨qi,2,none⟩=some (.int .i64 0):=(Lq qq.out 2).trans rfl;have hfz30_0:=Lp qq.out 0;have hfz30_1:=Lp qq.out 1;have hfz30_2:=Lp qq.out 2))
    repeat(go_quiet (first|(go_at_call 88;(with_reducible refine(impl_motion_min.calls k1 _ _ x9_1 t268 t269 t270 _ ?side1 ?side2 A24.out).mono ?_);(case side1=>repeat(first|exact(Lr qg.out).2.2|(with_reducible refine Kd.C_alloc ?_ _)|(with_reducible refine Kd.C_drewN ?_ _)|(with_reducible refine Kd.C_drew ?_)));(case side2=>exact(Lr qg.out).2.1);rintro e w26 ⟨rfl,hb⟩;have qj:=La (Lo (by(with_reducible repeat(first|apply Lj|apply Lk|apply Lc));exact qh.out) hb);have qk:=La (Lo (by(with_reducible repeat(first|apply Lj|apply Lk|apply Lc));exact qg.out) hb);have qm:=La (Ll (g:=qc) (o:=.cells #[.int .i64 a0_0,.int .i64 a0_1,.slice A0_2 l0_2.length c0_2] 27 (0,0)) (by(with_reducible repeat(first|refine Li ?_ _|refine Lb ?_|refine Lh ?_ _));exact qa.out) hb);have qn:=La (Ll (g:=qd) (o:=.cells #[.int .i64 a1_0,.int .i64 a1_1,.slice A1_2 l1_2.length c1_2] 27 (0,0)) (by(with_reducible repeat(first|refine Li ?_ _|refine Lb ?_|refine Lh ?_ _));exact qb.out) hb);have qr:=La (Ln (by repeat(first|(with_reducible first|exact HB.out|apply Lf|apply Ld|apply Lg|refine Le ?_ qe.out|refine Le ?_ qf.out)|exact HB.out)) hb);clear qh;clear qg;clear qa;clear qb;clear HB;have qh:=qj;have qg:=qk;have qa:=qm;have qb:=qn;have HB:=qr;clear qj qk qm qn qr;(try clear hb);(try clear hb2);(try clear hk);(try clear hi))|((with_reducible refine gate_dst (N:=12) rfl ?_);refine box_event ?hg (N:=12) ?hd (cs:=#[.int .i64 0,.int .i64 0,.int .i64 0]) (t:=89) ?hr ?_;(case hd=>rfl);(case hg=>rfl);(case hr=>first|(go_simp;done)|(go_simp;rfl));intro qi hg w27 hbox hb;have qj:=La (Lo (by(with_reducible repeat(first|apply Lj|apply Lk|apply Lc));exact qh.out) hb);have qk:=La (Lo (Kd.R_elderB (by(with_reducible repeat(first|apply Lj|apply Lk|apply Lc));exact qg.out) qi (Nat.le_of_eq hg.symm)) hb);have qm:=La (Ll (g:=qc) (o:=.cells #[.int .i64 a0_0,.int .i64 a0_1,.slice A0_2 l0_2.length c0_2] 27 (0,0)) (by(with_reducible repeat(first|refine Li ?_ _|refine Lb ?_|refine Lh ?_ _));exact qa.out) hb);have qn:=La (Ll (g:=qd) (o:=.cells #[.int .i64 a1_0,.int .i64 a1_1,.slice A1_2 l1_2.length c1_2] 27 (0,0)) (by(with_reducible repeat(first|refine Li ?_ _|refine Lb ?_|refine Lh ?_ _));exact qb.out) hb);have qr:=La (Ln (by repeat(first|(with_reducible first|exact HB.out|apply Lf|apply Ld|apply Lg|refine Le ?_ qe.out|refine Le ?_ qf.out)|exact HB.out)) hb);have qu:=La (hbox);have n6_:=La ((by rw [hg];exact(Lm (by repeat(first|(with_reducible first|exact HB.out|apply Lf|apply Ld|apply Lg|refine Le ?_ qe.out|refine Le ?_ qf.out)|exact HB.out))):w.heap.size≤qi));have n7_:=La ((by rw [hg];exact(Lm (by repeat(first|(with_reducible first|exact HB.out|apply Lf|apply Ld|apply Lg|refine Le ?_ qe.out|refine Le ?_ qf.out)|exact HB.out))):w.heap.size≤qi));have n8_:=La ((by rw [hg];exact Nat.ne_of_lt (blk_lt (g:=qc) (o:=.cells #[.int .i64 a0_0,.int .i64 a0_1,.slice A0_2 l0_2.length c0_2] 27 (0,0)) (by(with_reducible repeat(first|refine Li ?_ _|refine Lb ?_|refine Lh ?_ _));exact qa.out)):qc≠qi));have n9_:=La ((by rw [hg];exact Nat.ne_of_gt (blk_lt (g:=qc) (o:=.cells #[.int .i64 a0_0,.int .i64 a0_1,.slice A0_2 l0_2.length c0_2] 27 (0,0)) (by(with_reducible repeat(first|refine Li ?_ _|refine Lb ?_|refine Lh ?_ _));exact qa.out)):qi≠qc));have n10_:=La ((by rw [hg];exact Nat.ne_of_lt (blk_lt (g:=qd) (o:=.cells #[.int .i64 a1_0,.int .i64 a1_1,.slice A1_2 l1_2.length c1_2] 27 (0,0)) (by(with_reducible repeat(first|refine Li ?_ _|refine Lb ?_|refine Lh ?_ _));exact qb.out)):qd≠qi));have n11_:=La ((by rw [hg];exact Nat.ne_of_gt (blk_lt (g:=qd) (o:=.cells #[.int .i64 a1_0,.int .i64 a1_1,.slice A1_2 l1_2.length c1_2] 27 (0,0)) (by(with_reducible repeat(first|refine Li ?_ _|refine Lb ?_|refine Lh ?_ _));exact qb.out)):qi≠qd));clear qh;clear qg;clear qa;clear qb;clear HB;have qh:=qj;have qg:=qk;have qa:=qm;have qb:=qn;have HB:=qr;have qq:=qu;have GW271:=n6_;have GE271:=n7_;have qv:=n8_;have qx:=n9_;have qw:=n10_;have qy:=n11_;clear qj qk qm qn qr qu n6_ n7_ n8_ n9_ n10_ n11_;clear hb hbox hg;have hnb28:=qx.out;have hnc28:=qv.out;have hnb29:=qy.out;have hnc29:=qw.out;have hcz30_0:w27.cell? ⟨qi,0,none⟩=some (.int .i64 0):=(Lq qq.out 0).trans rfl;have hcz30_1:w27.cell? ⟨qi,1,none⟩=some (.int .i64 0):=(Lq qq.out 1).trans rfl;have hcz30_2:w27.cell? ⟨qi,2,none⟩=some (.int .i64 0):=(Lq qq.out 2).trans rfl;have hfz30_0:=Lp qq.out 0;have hfz30_1:=Lp qq.out 1;have hfz30_2:=Lp qq.out 2));try go_wp2_with (first|(go_at_call 88;(with_reducible refine(impl_motion_min.calls k1 _ _ x9_1 t268 t269 t270 _ ?side1 ?side2 A24.out).mono ?_);(case side1=>repeat(first|exact(Lr qg.out).2.2|(with_reducible refine Kd.C_alloc ?_ _)|(with_reducible refine Kd.C_drewN ?_ _)|(with_reducible refine Kd.C_drew ?_)));(case side2=>exact(Lr qg.out).2.1);rintro e w26 ⟨rfl,hb⟩;have qj:=La (Lo (by(with_reducible repeat(first|apply Lj|apply Lk|apply Lc));exact qh.out) hb);have qk:=La (Lo (by(with_reducible repeat(first|apply Lj|apply Lk|apply Lc));exact qg.out) hb);have qm:=La (Ll (g:=qc) (o:=.cells #[.int .i64 a0_0,.int .i64 a0_1,.slice A0_2 l0_2.length c0_2] 27 (0,0)) (by(with_reducible repeat(first|refine Li ?_ _|refine Lb ?_|refine Lh ?_ _));exact qa.out) hb);have qn:=La (Ll (g:=qd) (o:=.cells #[.int .i64 a1_0,.int .i64 a1_1,.slice A1_2 l1_2.length c1_2] 27 (0,0)) (by(with_reducible repeat(first|refine Li ?_ _|refine Lb ?_|refine Lh ?_ _));exact qb.out) hb);have qr:=La (Ln (by repeat(first|(with_reducible first|exact HB.out|apply Lf|apply Ld|apply Lg|refine Le ?_ qe.out|refine Le ?_ qf.out)|exact HB.out)) hb);clear qh;clear qg;clear qa;clear qb;clear HB;have qh:=qj;have qg:=qk;have qa:=qm;have qb:=qn;have HB:=qr;clear qj qk qm qn qr;(try clear hb);(try clear hb2);(try clear hk);(try clear hi))|((with_reducible refine gate_dst (N:=12) rfl ?_);refine box_event ?hg (N:=12) ?hd (cs:=#[.int .i64 0,.int .i64 0,.int .i64 0]) (t:=89) ?hr ?_;(case hd=>rfl);(case hg=>rfl);(case hr=>first|(go_simp;done)|(go_simp;rfl));intro qi hg w27 hbox hb;have qj:=La (Lo (by(with_reducible repeat(first|apply Lj|apply Lk|apply Lc));exact qh.out) hb);have qk:=La (Lo (Kd.R_elderB (by(with_reducible repeat(first|apply Lj|apply Lk|apply Lc));exact qg.out) qi (Nat.le_of_eq hg.symm)) hb);have qm:=La (Ll (g:=qc) (o:=.cells #[.int .i64 a0_0,.int .i64 a0_1,.slice A0_2 l0_2.length c0_2] 27 (0,0)) (by(with_reducible repeat(first|refine Li ?_ _|refine Lb ?_|refine Lh ?_ _));exact qa.out) hb);have qn:=La (Ll (g:=qd) (o:=.cells #[.int .i64 a1_0,.int .i64 a1_1,.slice A1_2 l1_2.length c1_2] 27 (0,0)) (by(with_reducible repeat(first|refine Li ?_ _|refine Lb ?_|refine Lh ?_ _));exact qb.out) hb);have qr:=La (Ln (by repeat(first|(with_reducible first|exact HB.out|apply Lf|apply Ld|apply Lg|refine Le ?_ qe.out|refine Le ?_ qf.out)|exact HB.out)) hb);have qu:=La (hbox);have n6_:=La ((by rw [hg];exact(Lm (by repeat(first|(with_reducible first|exact HB.out|apply Lf|apply Ld|apply Lg|refine Le ?_ qe.out|refine Le ?_ qf.out)|exact HB.out))):w.heap.size≤qi));have n7_:=La ((by rw [hg];exact(Lm (by repeat(first|(with_reducible first|exact HB.out|apply Lf|apply Ld|apply Lg|refine Le ?_ qe.out|refine Le ?_ qf.out)|exact HB.out))):w.heap.size≤qi));have n8_:=La ((by rw [hg];exact Nat.ne_of_lt (blk_lt (g:=qc) (o:=.cells #[.int .i64 a0_0,.int .i64 a0_1,.slice A0_2 l0_2.length c0_2] 27 (0,0)) (by(with_reducible repeat(first|refine Li ?_ _|refine Lb ?_|refine Lh ?_ _));exact qa.out)):qc≠qi));have n9_:=La ((by rw [hg];exact Nat.ne_of_gt (blk_lt (g:=qc) (o:=.cells #[.int .i64 a0_0,.int .i64 a0_1,.slice A0_2 l0_2.length c0_2] 27 (0,0)) (by(with_reducible repeat(first|refine Li ?_ _|refine Lb ?_|refine Lh ?_ _));exact qa.out)):qi≠qc));have n10_:=La ((by rw [hg];exact Nat.ne_of_lt (blk_lt (g:=qd) (o:=.cells #[.int .i64 a1_0,.int .i64 a1_1,.slice A1_2 l1_2.length c1_2] 27 (0,0)) (by(with_reducible repeat(first|refine Li ?_ _|refine Lb ?_|refine Lh ?_ _));exact qb.out)):qd≠qi));have n11_:=La ((by rw [hg];exact Nat.ne_of_gt (blk_lt (g:=qd) (o:=.cells #[.int .i64 a1_0,.int .i64 a1_1,.slice A1_2 l1_2.length c1_2] 27 (0,0)) (by(with_reducible repeat(first|refine Li ?_ _|refine Lb ?_|refine Lh ?_ _));exact qb.out)):qi≠qd));clear qh;clear qg;clear qa;clear qb;clear HB;have qh:=qj;have qg:=qk;have qa:=qm;have qb:=qn;have HB:=qr;have qq:=qu;have GW271:=n6_;have GE271:=n7_;have qv:=n8_;have qx:=n9_;have qw:=n10_;have qy:=n11_;clear qj qk qm qn qr qu n6_ n7_ n8_ n9_ n10_ n11_;clear hb hbox hg;have hnb28:=qx.out;have hnc28:=qv.out;have hnb29:=qy.out;have hnc29:=qw.out;have hcz30_0:w27.cell? ⟨qi,0,none⟩=some (.int .i64 0):=(Lq qq.out 0).trans rfl;have hcz30_1:w27.cell? ⟨qi,1,none⟩=some (.int .i64 0):=(Lq qq.out 1).trans rfl;have hcz30_2:w27.cell? ⟨qi,2,none⟩=some (.int .i64 0):=(Lq qq.out 2).trans rfl;have hfz30_0:=Lp qq.out 0;have hfz30_1:=Lp qq.out 1;have hfz30_2:=Lp qq.out 2)))
    go_ret2
    exact⟨by first|rfl|(simp [errW_none,errW_some] <;> rfl)|(simp [*,errW_none,errW_some] <;> rfl),by repeat(first|(with_reducible first|exact HB.out|apply Lf|apply Ld|apply Lg|refine Le ?_ qe.out|refine Le ?_ qf.out|refine Le ?_ GE271.out)|exact HB.out)⟩

/-! ### impl_down: function 97 -/
def impl_down.f (a0 : Int) (a1 : Int) : Option (Int) := if a1 = 0 then (none) else (if (Int.tmod a0 a1) < 0 then (some (wrap64 ((wrap64 (Int.tdiv a0 a1)) - 1))) else (some (wrap64 (Int.tdiv a0 a1))))
set_option maxHeartbeats 8000000 in
set_option maxRecDepth 100000 in
theorem impl_down.calls (a0 : Int) (a1 : Int) (r : Int) (w : World) (h : impl_down.f a0 a1 = some r) :
  Calls Try.prog 97 #[.int .i64 a0,.int .i64 a1] w fun e w'=>e=.returned (.int .i64 r)∧Drawn0 w w':=by
 have H:(if a1=0 then (none) else (if (Int.tmod a0 a1) < 0 then (some (wrap64 ((wrap64 (Int.tdiv a0 a1)) - 1))) else (some (wrap64 (Int.tdiv a0 a1)))))=some r:=h
 clear h
 by_cases c3:a1=0
 ·rw [if_pos c3] at H
  exact absurd H (by simp)
 ·rw [if_neg c3] at H
  have c3b0:(a1 == 0)=false:=beq_eq_false_iff_ne.mpr c3
  have c3b1:(a1 != 0)=true:=bne_iff_ne.mpr c3
  by_cases c4:(Int.tmod a0 a1) < 0
  ·rw [if_pos c4] at H
   have c4b0:decide ((Int.tmod a0 a1) < 0)=true:=decide_eq_true c4
   clear c4
   obtain rfl:=Option.some.inj H
   go_enter Try.func97,Try.ntmps97
   go_wp2
   go_ret
   exact⟨by first|rfl|(simp;done)|(simp [*];done),by repeat(first|exact Drawn0.refl _|apply Drawn0.step)⟩
  ·rw [if_neg c4] at H
   have c4b0:decide ((Int.tmod a0 a1) < 0)=false:=decide_eq_false c4
   clear c4
   obtain rfl:=Option.some.inj H
   go_enter Try.func97,Try.ntmps97
   go_wp2
   go_ret
   exact⟨by first|rfl|(simp;done)|(simp [*];done),by repeat(first|exact Drawn0.refl _|apply Drawn0.step)⟩

/-! ### impl_near: function 79 -/
def impl_near.f (a0 : Int) (a1 : Int) : Option (Int) := (impl_down.f (wrap64 ((wrap64 (2 * a0)) + a1)) (wrap64 (2 * a1))).bind fun t279 => (some t279)
set_option maxHeartbeats 8000000 in
set_option maxRecDepth 100000 in
theorem impl_near.calls (a0 : Int) (a1 : Int) (r : Int) (w : World) (h : impl_near.f a0 a1 = some r) :
  Calls Try.prog 79 #[.int .i64 a0,.int .i64 a1] w fun e w'=>e=.returned (.int .i64 r)∧Drawn0 w w':=by
 have H:((impl_down.f (wrap64 ((wrap64 (2*a0))+a1)) (wrap64 (2*a1))).bind fun t279=>(some t279))=some r:=h
 clear h
 replace H:=Option.bind_eq_some_iff.mp H
 obtain⟨t279,A30,H⟩:=H
 replace H:(some t279)=some r:=H
 have A3:=La A30
 clear A30
 obtain rfl:=Option.some.inj H
 go_enter Try.func79,Try.ntmps79
 go_wp2_with (first|((with_reducible refine gate_callee (f:=97) rfl ?_);refine goesL_ (some 11) rfl rfl Try.func97 (by kernel_rfl) rfl #[.int .i64 (wrap64 ((wrap64 (2*a0))+a1)),.int .i64 (wrap64 (2*a1))] rfl (by(try simp only [List.map_toArray,List.map_cons,List.map_nil]);first|done|rfl|(simp only [List.length_drop,List.length_take];rfl)) ?_;(with_reducible refine(impl_down.calls (wrap64 ((wrap64 (2*a0))+a1)) (wrap64 (2*a1)) t279 _ A3.out).mono ?_);rintro e w' ⟨rfl,⟨nd,rfl⟩⟩;refine⟨_,rfl,?_⟩))
 go_ret
 exact⟨by first|rfl|(simp;done)|(simp [*];done),by repeat(first|exact Drawn0.refl _|apply Drawn0.step)⟩

/-! ### impl_levelBytes: function 80 -/
def impl_levelBytes.f (a0 : Int) : Option (List Int) := if a0 < 0 then (if (wrap64 ((wrap64 ((-2) * a0)) - 1)) < 255 then (some (([(wrap64 ((wrap64 ((-2) * a0)) - 1)) % 256] : List Int))) else (some (([255, ((wrap64 ((wrap64 ((-2) * a0)) - 1)) / 256) % 256, (wrap64 ((wrap64 ((-2) * a0)) - 1)) % 256] : List Int)))) else (if (wrap64 (2 * a0)) < 255 then (some (([(wrap64 (2 * a0)) % 256] : List Int))) else (some (([255, ((wrap64 (2 * a0)) / 256) % 256, (wrap64 (2 * a0)) % 256] : List Int))))
set_option maxHeartbeats 8000000 in
set_option maxRecDepth 100000 in
theorem impl_levelBytes.calls (a0 : Int) (r : List Int) (w : World) (h : impl_levelBytes.f a0 = some r) :
  Calls Try.prog 80 #[.int .i64 a0] w fun e w'=>∃ v0_:Value,e=.returned (v0_)∧Kd.R (Kd.int .u8) 5 w' w.heap.size (fun _=>True) v0_ r∧Below w.heap.size w w':=by
 have HB:=La (Below.refl w.heap.size w)
 have H:(if a0 < 0 then (if (wrap64 ((wrap64 ((-2)*a0)) - 1)) < 255 then (some (([(wrap64 ((wrap64 ((-2)*a0)) - 1)) % 256]:List Int))) else (some (([255,((wrap64 ((wrap64 ((-2)*a0)) - 1)) / 256) % 256,(wrap64 ((wrap64 ((-2)*a0)) - 1)) % 256]:List Int)))) else (if (wrap64 (2*a0)) < 255 then (some (([(wrap64 (2*a0)) % 256]:List Int))) else (some (([255,((wrap64 (2*a0)) / 256) % 256,(wrap64 (2*a0)) % 256]:List Int)))))=some r:=h
 clear h
 by_cases c2:a0 < 0
 ·rw [if_pos c2] at H
  have c2b0:decide (a0 < 0)=true:=decide_eq_true c2
  clear c2
  by_cases c3:(wrap64 ((wrap64 ((-2)*a0)) - 1)) < 255
  ·rw [if_pos c3] at H
   have c3b0:decide ((wrap64 ((wrap64 ((-2)*a0)) - 1)) < 255)=true:=decide_eq_true c3
   clear c3
   obtain⟨y280,hy280⟩:∃ y_:List Int,y_=(([(wrap64 ((wrap64 ((-2)*a0)) - 1)) % 256]:List Int)):=⟨_,rfl⟩
   replace H:(some y280)=some r:=by first|(rw [hy280];with_reducible exact H)|(have yb:=(Option.bind_some _ _).symm.trans H;rw [hy280];with_reducible exact yb)|(have yb:=(Option.bind_some _ _).symm.trans H;with_reducible exact yb)|with_reducible exact H|(rw [hy280];exact H)|exact H
   have Ny280:=La hy280
   clear hy280
   obtain rfl:=Option.some.inj H
   go_enter Try.func80,Try.ntmps80
   go_wp2_with (first|((with_reducible refine gate_dst (N:=15) rfl ?_);refine Kd.R_lit (Kd.int .u8) _ 5 ?hg (N:=15) ?hd (xs:=([(wrap64 ((wrap64 ((-2)*a0)) - 1)) % 256]:List Int)) (inner:=[.int .u8 ((wrap64 ((wrap64 ((-2)*a0)) - 1)) % 256)]) (ok:=fun _=>True) (okp:=fun _=>True) ?hr ?hp (fun _ hk=>hk) trivial (Below.refl _ _) (Nat.le_refl _) (by simp) ?_;(case hd=>rfl);(case hg=>rfl);(case hr=>first|(go_simp;done)|(go_simp;rfl));(case hp=>exact(Reps.one (show Kd.M (Kd.int .u8) _ _ _ ((wrap64 ((wrap64 ((-2)*a0)) - 1)) % 256) [.int .u8 ((wrap64 ((wrap64 ((-2)*a0)) - 1)) % 256)] from rfl) (Reps.none _ _)));intro v281 w4 ho5 hb hg_ hnew_;clear hg_ hnew_;(first|rw [← Ny280.out] at ho5|(simp only [Int.reduceToNat] at ho5;rw [← Ny280.out] at ho5));have qj:=La (Kd.R_lower ho5 (Lm (by repeat(first|(with_reducible first|exact HB.out|apply Lf|apply Ld|apply Lg)|exact HB.out))));have qk:=La (Ln (by repeat(first|(with_reducible first|exact HB.out|apply Lf|apply Ld|apply Lg)|exact HB.out)) hb);clear HB;have HO282:=qj;have HB:=qk;clear qj qk;clear hb ho5))
   go_ret
   exact⟨_,by first|rfl|(simp [errW_none,errW_some] <;> rfl)|(simp [*,errW_none,errW_some] <;> rfl),by(with_reducible repeat(first|apply Lj|apply Lk|apply Lc));exact HO282.out,by repeat(first|(with_reducible first|exact HB.out|apply Lf|apply Ld|apply Lg)|exact HB.out)⟩
  ·rw [if_neg c3] at H
   have c3b0:decide ((wrap64 ((wrap64 ((-2)*a0)) - 1)) < 255)=false:=decide_eq_false c3
   clear c3
   obtain⟨y283,hy283⟩:∃ y_:List Int,y_=(([255,((wrap64 ((wrap64 ((-2)*a0)) - 1)) / 256) % 256,(wrap64 ((wrap64 ((-2)*a0)) - 1)) % 256]:List Int)):=⟨_,rfl⟩
   replace H:(some y283)=some r:=by first|(rw [hy283];with_reducible exact H)|(have yb:=(Option.bind_some _ _).symm.trans H;rw [hy283];with_reducible exact yb)|(have yb:=(Option.bind_some _ _).symm.trans H;with_reducible exact yb)|with_reducible exact H|(rw [hy283];exact H)|exact H
   have Ny283:=La hy283
   clear hy283
   obtain rfl:=Option.some.inj H
   go_enter Try.func80,Try.ntmps80
   go_wp2_with (first|((with_reducible refine gate_dst (N:=21) rfl ?_);refine Kd.R_lit (Kd.int .u8) _ 5 ?hg (N:=21) ?hd (xs:=([255,((wrap64 ((wrap64 ((-2)*a0)) - 1)) / 256) % 256,(wrap64 ((wrap64 ((-2)*a0)) - 1)) % 256]:List Int)) (inner:=[.int .u8 255,.int .u8 (((wrap64 ((wrap64 ((-2)*a0)) - 1)) / 256) % 256),.int .u8 ((wrap64 ((wrap64 ((-2)*a0)) - 1)) % 256)]) (ok:=fun _=>True) (okp:=fun _=>True) ?hr ?hp (fun _ hk=>hk) trivial (Below.refl _ _) (Nat.le_refl _) (by simp) ?_;(case hd=>rfl);(case hg=>rfl);(case hr=>first|(go_simp;done)|(go_simp;rfl));(case hp=>exact(Reps.one (show Kd.M (Kd.int .u8) _ _ _ 255 [.int .u8 255] from rfl) (Reps.one (show Kd.M (Kd.int .u8) _ _ _ (((wrap64 ((wrap64 ((-2)*a0)) - 1)) / 256) % 256) [.int .u8 (((wrap64 ((wrap64 ((-2)*a0)) - 1)) / 256) % 256)] from rfl) (Reps.one (show Kd.M (Kd.int .u8) _ _ _ ((wrap64 ((wrap64 ((-2)*a0)) - 1)) % 256) [.int .u8 ((wrap64 ((wrap64 ((-2)*a0)) - 1)) % 256)] from rfl) (Reps.none _ _)))));intro v284 w6 ho7 hb hg_ hnew_;clear hg_ hnew_;(first|rw [← Ny283.out] at ho7|(simp only [Int.reduceToNat] at ho7;rw [← Ny283.out] at ho7));have qj:=La (Kd.R_lower ho7 (Lm (by repeat(first|(with_reducible first|exact HB.out|apply Lf|apply Ld|apply Lg)|exact HB.out))));have qk:=La (Ln (by repeat(first|(with_reducible first|exact HB.out|apply Lf|apply Ld|apply Lg)|exact HB.out)) hb);clear HB;have HO285:=qj;have HB:=qk;clear qj qk;clear hb ho7))
   go_ret
   exact⟨_,by first|rfl|(simp [errW_none,errW_some] <;> rfl)|(simp [*,errW_none,errW_some] <;> rfl),by(with_reducible repeat(first|apply Lj|apply Lk|apply Lc));exact HO285.out,by repeat(first|(with_reducible first|exact HB.out|apply Lf|apply Ld|apply Lg)|exact HB.out)⟩
 ·rw [if_neg c2] at H
  have c2b0:decide (a0 < 0)=false:=decide_eq_false c2
  clear c2
  by_cases c8:(wrap64 (2*a0)) < 255
  ·rw [if_pos c8] at H
   have c8b0:decide ((wrap64 (2*a0)) < 255)=true:=decide_eq_true c8
   clear c8
   obtain⟨y286,hy286⟩:∃ y_:List Int,y_=(([(wrap64 (2*a0)) % 256]:List Int)):=⟨_,rfl⟩
   replace H:(some y286)=some r:=by first|(rw [hy286];with_reducible exact H)|(have yb:=(Option.bind_some _ _).symm.trans H;rw [hy286];with_reducible exact yb)|(have yb:=(Option.bind_some _ _).symm.trans H;with_reducible exact yb)|with_reducible exact H|(rw [hy286];exact H)|exact H
   have Ny286:=La hy286
   clear hy286
   obtain rfl:=Option.some.inj H
   go_enter Try.func80,Try.ntmps80
   go_wp2_with (first|((with_reducible refine gate_dst (N:=15) rfl ?_);refine Kd.R_lit (Kd.int .u8) _ 5 ?hg (N:=15) ?hd (xs:=([(wrap64 (2*a0)) % 256]:List Int)) (inner:=[.int .u8 ((wrap64 (2*a0)) % 256)]) (ok:=fun _=>True) (okp:=fun _=>True) ?hr ?hp (fun _ hk=>hk) trivial (Below.refl _ _) (Nat.le_refl _) (by simp) ?_;(case hd=>rfl);(case hg=>rfl);(case hr=>first|(go_simp;done)|(go_simp;rfl));(case hp=>exact(Reps.one (show Kd.M (Kd.int .u8) _ _ _ ((wrap64 (2*a0)) % 256) [.int .u8 ((wrap64 (2*a0)) % 256)] from rfl) (Reps.none _ _)));intro v287 w9 ho10 hb hg_ hnew_;clear hg_ hnew_;(first|rw [← Ny286.out] at ho10|(simp only [Int.reduceToNat] at ho10;rw [← Ny286.out] at ho10));have qj:=La (Kd.R_lower ho10 (Lm (by repeat(first|(with_reducible first|exact HB.out|apply Lf|apply Ld|apply Lg)|exact HB.out))));have qk:=La (Ln (by repeat(first|(with_reducible first|exact HB.out|apply Lf|apply Ld|apply Lg)|exact HB.out)) hb);clear HB;have HO288:=qj;have HB:=qk;clear qj qk;clear hb ho10))
   go_ret
   exact⟨_,by first|rfl|(simp [errW_none,errW_some] <;> rfl)|(simp [*,errW_none,errW_some] <;> rfl),by(with_reducible repeat(first|apply Lj|apply Lk|apply Lc));exact HO288.out,by repeat(first|(with_reducible first|exact HB.out|apply Lf|apply Ld|apply Lg)|exact HB.out)⟩
  ·rw [if_neg c8] at H
   have c8b0:decide ((wrap64 (2*a0)) < 255)=false:=decide_eq_false c8
   clear c8
   obtain⟨y289,hy289⟩:∃ y_:List Int,y_=(([255,((wrap64 (2*a0)) / 256) % 256,(wrap64 (2*a0)) % 256]:List Int)):=⟨_,rfl⟩
   replace H:(some y289)=some r:=by first|(rw [hy289];with_reducible exact H)|(have yb:=(Option.bind_some _ _).symm.trans H;rw [hy289];with_reducible exact yb)|(have yb:=(Option.bind_some _ _).symm.trans H;with_reducible exact yb)|with_reducible exact H|(rw [hy289];exact H)|exact H
   have Ny289:=La hy289
   clear hy289
   obtain rfl:=Option.some.inj H
   go_enter Try.func80,Try.ntmps80
   go_wp2_with (first|((with_reducible refine gate_dst (N:=21) rfl ?_);refine Kd.R_lit (Kd.int .u8) _ 5 ?hg (N:=21) ?hd (xs:=([255,((wrap64 (2*a0)) / 256) % 256,(wrap64 (2*a0)) % 256]:List Int)) (inner:=[.int .u8 255,.int .u8 (((wrap64 (2*a0)) / 256) % 256),.int .u8 ((wrap64 (2*a0)) % 256)]) (ok:=fun _=>True) (okp:=fun _=>True) ?hr ?hp (fun _ hk=>hk) trivial (Below.refl _ _) (Nat.le_refl _) (by simp) ?_;(case hd=>rfl);(case hg=>rfl);(case hr=>first|(go_simp;done)|(go_simp;rfl));(case hp=>exact(Reps.one (show Kd.M (Kd.int .u8) _ _ _ 255 [.int .u8 255] from rfl) (Reps.one (show Kd.M (Kd.int .u8) _ _ _ (((wrap64 (2*a0)) / 256) % 256) [.int .u8 (((wrap64 (2*a0)) / 256) % 256)] from rfl) (Reps.one (show Kd.M (Kd.int .u8) _ _ _ ((wrap64 (2*a0)) % 256) [.int .u8 ((wrap64 (2*a0)) % 256)] from rfl) (Reps.none _ _)))));intro v290 w11 ho12 hb hg_ hnew_;clear hg_ hnew_;(first|rw [← Ny289.out] at ho12|(simp only [Int.reduceToNat] at ho12;rw [← Ny289.out] at ho12));have qj:=La (Kd.R_lower ho12 (Lm (by repeat(first|(with_reducible first|exact HB.out|apply Lf|apply Ld|apply Lg)|exact HB.out))));have qk:=La (Ln (by repeat(first|(with_reducible first|exact HB.out|apply Lf|apply Ld|apply Lg)|exact HB.out)) hb);clear HB;have HO291:=qj;have HB:=qk;clear qj qk;clear hb ho12))
   go_ret
   exact⟨_,by first|rfl|(simp [errW_none,errW_some] <;> rfl)|(simp [*,errW_none,errW_some] <;> rfl),by(with_reducible repeat(first|apply Lj|apply Lk|apply Lc));exact HO291.out,by repeat(first|(with_reducible first|exact HB.out|apply Lf|apply Ld|apply Lg)|exact HB.out)⟩

end Go.Proofs.Ytbdnpfjjaokdbaa.HFnCoded
