-- Laid by myprint.py, a program of this repo, out of the kit's printer and this repo's own texts (wip/hand).
import Derived.Test.YtidogkjhjmcliaaDoorHFnExactShowTitlesx0
import Derived.Test.YtidogkjhjmcliaaDoorHFnExactShowTitlesx1
import Derived.Test.YtidogkjhjmcliaaDoorHFnExactShowTitlesx3
import Derived.Test.YtidogkjhjmcliaaDoorHFnExactShowTitlesx4
import Derived.Test.YtidogkjhjmcliaaDoorHFnExactShowTitlesx6
namespace Go.Proofs.YtidogkjhjmcliaaDoor.HFnExactShowTitles
open Go.RowKit Go.Proofs.YtidogkjhjmcliaaDoorW.PrintWords Go.Proofs.YtidogkjhjmcliaaDoorW.PrintLast Go.Proofs.YtidogkjhjmcliaaDoorW.PrintMore
attribute [local go_sem] max2_int min2_int max_two min_two max_three min_three max_four min_four   -- for this text's walks alone
set_option linter.unusedVariables false
set_option linter.unusedSimpArgs false
theorem Ha : type_of% @Aside0.mk := @Aside0.mk
theorem Hb : type_of% @pw_below_drewN := @pw_below_drewN
theorem Hc : type_of% @Kd.R_drew := @Kd.R_drew
theorem Hd : type_of% @below_drew1 := @below_drew1
theorem He : type_of% @below_alloc := @below_alloc
theorem Hf : type_of% @Kd.C_drew := @Kd.C_drew
theorem Hg : type_of% @Kd.R_alloc := @Kd.R_alloc
theorem Hh : type_of% @Kd.R_drewN := @Kd.R_drewN
theorem Hi : type_of% @Kd.C_alloc := @Kd.C_alloc
theorem Hj : type_of% @Kd.C_drewN := @Kd.C_drewN
theorem Hk : type_of% @Kd.R_reads' := @Kd.R_reads'
theorem Hl : type_of% @below_step := @below_step
theorem Hm : type_of% @gate_callee := @gate_callee

/-! ### laws_eqTitleS: function 10 -/
def laws_eqTitleS.l0 : Nat → List (S40) → List (S40) → Int → Option (Bool)
 | 0, _, _, _ => none
 | k + 1, x0, x1, x5 => if x5 < (x0.length : Int) then (if 0 ≤ x5 then (if x5 < (x1.length : Int) then ((laws_eqTitle.f ((rd_T40 x0 x5).f0) ((rd_T40 x0 x5).f1) ((rd_T40 x0 x5).f2) ((rd_T40 x1 x5).f0) ((rd_T40 x1 x5).f1) ((rd_T40 x1 x5).f2)).bind fun t177 => (if t177 = true then (laws_eqTitleS.l0 k x0 x1 (wrap64 (x5 + 1))) else (some false))) else (none)) else (none)) else (some true)
def laws_eqTitleS.f (k : Nat) (l0 : List (S40)) (l1 : List (S40)) : Option (Bool) := if (l0.length : Int) = (l1.length : Int) then (laws_eqTitleS.l0 k l0 l1 0) else (some false)
theorem laws_eqTitleS.mono_l : ∀ k, (∀ y0 y1 y2, LeO (laws_eqTitleS.l0 k y0 y1 y2) (laws_eqTitleS.l0 (k + 1) y0 y1 y2))
 | 0 => fun _ _ _ r h => by simp [laws_eqTitleS.l0] at h
 | k + 1 => by
  have ih0:=laws_eqTitleS.mono_l k
  ·intro y0 y1 y2
   unfold laws_eqTitleS.l0
   repeat' first
   | (with_reducible exact ih0 _ _ _)
   | (with_reducible exact LeO.refl _)
   | (with_reducible exact LeO.none _)
   | (with_reducible refine LeO.ite ?_ ?_)
   | (with_reducible refine LeO.bind ?_ (fun _ => ?_))
   | exact ih0 _ _ _
   | exact LeO.none _
   | refine LeO.ite ?_ ?_
   | refine LeO.bind ?_ (fun _ => ?_)
theorem laws_eqTitleS.mono : ∀ a0 a1 k, LeO (laws_eqTitleS.f k a0 a1) (laws_eqTitleS.f (k + 1) a0 a1) := by
 intro a0 a1 k
 have ih0:=laws_eqTitleS.mono_l k
 unfold laws_eqTitleS.f
 repeat' first
   | (with_reducible exact ih0 _ _ _)
   | (with_reducible exact LeO.refl _)
   | (with_reducible exact LeO.none _)
   | (with_reducible refine LeO.ite ?_ ?_)
   | (with_reducible refine LeO.bind ?_ (fun _ => ?_))
   | exact ih0 _ _ _
   | exact LeO.none _
   | refine LeO.ite ?_ ?_
   | refine LeO.bind ?_ (fun _ => ?_)
def laws_eqTitleS.T6 : Bool × List (List Nat × List Nat) := (true, [([], []), ([], []), ([0, 1], [0, 1]), ([2], [2]), ([], []), ([], []), ([4, 5], [4, 5]), ([6], [6]), ([3, 7], [3, 7]), ([8], [8])])
def laws_eqTitleS.B6 : List Nat := [0, 0, 3, 7, 0, 0, 48, 112, 255, 511]
theorem laws_eqTitleS.tab6 : rtab .any (opsOf Tryd.f10 6) = laws_eqTitleS.T6 := by kernel_rfl
theorem laws_eqTitleS.bits6 : waitsOk laws_eqTitleS.T6.2 laws_eqTitleS.B6 = true := by kernel_rfl
set_option maxHeartbeats 8000000 in
set_option maxRecDepth 100000 in
theorem laws_eqTitleS.calls (k : Nat) (A0 : Option Addr) (c0 : Nat) (l0 : List (S40)) (A1 : Option Addr) (c1 : Nat) (l1 : List (S40)) (r : Bool) (w : World) (hr0 : Kd.C k40 w A0 l0.length l0) (hc0 : l0.length ≤ c0) (hr1 : Kd.C k40 w A1 l1.length l1) (hc1 : l1.length ≤ c1) (h : laws_eqTitleS.f k l0 l1 = some r) :
  Calls Tryd.prog 10 #[.slice A0 l0.length c0,.slice A1 l1.length c1] w fun e w'=>e=.returned (.bool r)∧Below w.heap.size w w':=by
 have hu40:=Tryd.underlying40
 have HR0:=Ha hr0
 have HC0:=Ha hc0
 clear hr0 hc0
 have HR1:=Ha hr1
 have HC1:=Ha hc1
 clear hr1 hc1
 have HB:=Ha (Below.refl w.heap.size w)
 have H:(if (l0.length:Int)=(l1.length:Int) then (laws_eqTitleS.l0 k l0 l1 0) else (some false))=some r:=h
 clear h
 by_cases c3:(l0.length:Int)=(l1.length:Int)
 ·rw [if_pos c3] at H
  have c3b0:((l0.length:Int) == (l1.length:Int))=true:=beq_iff_eq.mpr c3
  have c3b1:((l0.length:Int) != (l1.length:Int))=false:=bne_eq_false_iff_eq.mpr c3
  have c3b2:(l0.length == l1.length)=true:=by first|simpa using c3|(simp at c3 ⊢;omega)
  clear c3
  have H':=Ha H
  clear H
  go_enter Tryd.func10,Tryd.ntmps10
  go_wp2
  go_loopg [5] k (fun kq v5 w'=>∃ (x5_1:Int),v5=.int .i64 x5_1∧Aside0 (laws_eqTitleS.l0 kq l0 l1 x5_1=some r)∧Aside0 (kq≤k)∧Aside0 (Below w.heap.size w w'))
  case atStart=>exact⟨(0),(by first|rfl|(simp;done)|(simp [*];done)),H',⟨Nat.le_refl _⟩,⟨by repeat(first|(with_reducible first|exact HB.out|apply He|apply Hb|apply Hd)|exact HB.out)⟩⟩
  case round=>
   clear H'
   try clear c1
   try clear p2
   try clear c3
   try clear c3b0
   try clear c3b1
   try clear c3b2
   obtain⟨x5_1,rfl,HA,HK1,HB⟩:=hrel
   cases gk with
   | zero => exact absurd HA.out (by simp [laws_eqTitleS.l0])
   | succ k1 =>
    have H:=HA.out
    clear HA
    simp only [laws_eqTitleS.l0] at H
    by_cases c4:x5_1 < (l0.length:Int)
    ·rw [if_pos c4] at H
     have c4b0:decide (x5_1 < (l0.length:Int))=true:=decide_eq_true c4
     clear c4
     by_cases c5:0≤x5_1
     ·rw [if_pos c5] at H
      have c5b0:decide (0≤x5_1)=true:=decide_eq_true c5
      clear c5
      by_cases c6:x5_1 < (l1.length:Int)
      ·rw [if_pos c6] at H
       have c6b0:decide (x5_1 < (l1.length:Int))=true:=decide_eq_true c6
       clear c6
       replace H:=Option.bind_eq_some_iff.mp H
       obtain⟨t177,A70,H⟩:=H
       replace H:(if t177=true then (laws_eqTitleS.l0 k1 l0 l1 (wrap64 (x5_1+1))) else (some false))=some r:=H
       have A7:=Ha A70
       clear A70
       by_cases c8:t177=true
       ·subst c8
        have H1:(laws_eqTitleS.l0 k1 l0 l1 (wrap64 (x5_1+1)))=some r:=by rw [if_pos rfl] at H;exact H
        clear H
        have H:=H1
        clear H1
        have H':=Ha H
        clear H
        try go_wp2
        have n0_:=Ha (Hd HB.out)
        clear HB
        have HB:=n0_
        clear n0_
        have p175:0≤(x5_1:Int):=of_decide_eq_true (by first|(with_reducible assumption)|assumption)
        have q175:x5_1 < (l0.length:Int):=of_decide_eq_true (by first|(with_reducible assumption)|assumption)
        obtain⟨ad175,e175,hx175_0,hx175_1,hx175_2⟩:=at_T40 HR0.out x5_1 p175 q175
        have hw175_2:=hx175_2
        have hw175_1:=hx175_1
        have hw175_0:=hx175_0
        cases e175
        replace hx175_0:=(HB.out.cell (World.block_lt_of_cell? w _ hx175_0)).trans hx175_0
        replace hx175_1:=(HB.out.cell (World.block_lt_of_cell? w _ hx175_1)).trans hx175_1
        replace hx175_2:=(HB.out.cell (World.block_lt_of_cell? w _ hx175_2)).trans hx175_2
        replace p175:=eq_true p175
        replace q175:=eq_true q175
        have p176:0≤(x5_1:Int):=of_decide_eq_true (by first|(with_reducible assumption)|assumption)
        have q176:x5_1 < (l1.length:Int):=of_decide_eq_true (by first|(with_reducible assumption)|assumption)
        obtain⟨ad176,e176,hx176_0,hx176_1,hx176_2⟩:=at_T40 HR1.out x5_1 p176 q176
        have hw176_2:=hx176_2
        have hw176_1:=hx176_1
        have hw176_0:=hx176_0
        cases e176
        replace hx176_0:=(HB.out.cell (World.block_lt_of_cell? w _ hx176_0)).trans hx176_0
        replace hx176_1:=(HB.out.cell (World.block_lt_of_cell? w _ hx176_1)).trans hx176_1
        replace hx176_2:=(HB.out.cell (World.block_lt_of_cell? w _ hx176_2)).trans hx176_2
        replace p176:=eq_true p176
        replace q176:=eq_true q176
        refine start_ (n:=10) (S:=fun w'=>w'.cell? (ad175.add ((x5_1).toNat*3))=some (.int .i64 ((rd_T40 l0 x5_1).f0))∧w'.cell? ⟨(ad175.add ((x5_1).toNat*3)).block,(ad175.add ((x5_1).toNat*3)).off+1,none⟩=some (.int .i64 ((rd_T40 l0 x5_1).f1))∧w'.cell? ⟨(ad175.add ((x5_1).toNat*3)).block,(ad175.add ((x5_1).toNat*3)).off+2,none⟩=some (.string ((rd_T40 l0 x5_1).f2))∧w'.cell? (ad176.add ((x5_1).toNat*3))=some (.int .i64 ((rd_T40 l1 x5_1).f0))∧w'.cell? ⟨(ad176.add ((x5_1).toNat*3)).block,(ad176.add ((x5_1).toNat*3)).off+1,none⟩=some (.int .i64 ((rd_T40 l1 x5_1).f1))∧w'.cell? ⟨(ad176.add ((x5_1).toNat*3)).block,(ad176.add ((x5_1).toNat*3)).off+2,none⟩=some (.string ((rd_T40 l1 x5_1).f2))) (ds:=[]) #[false,false,false,false,false,false,false,false,false,false] (by kernel_rfl) rfl rfl ⟨((HB.out.cell (World.block_lt_of_cell? w _ hw175_0)).trans hw175_0),((HB.out.cell (World.block_lt_of_cell? w _ hw175_1)).trans hw175_1),((HB.out.cell (World.block_lt_of_cell? w _ hw175_2)).trans hw175_2),((HB.out.cell (World.block_lt_of_cell? w _ hw176_0)).trans hw176_0),((HB.out.cell (World.block_lt_of_cell? w _ hw176_1)).trans hw176_1),((HB.out.cell (World.block_lt_of_cell? w _ hw176_2)).trans hw176_2)⟩ (fun hHeld=>?_);refine with_tabW laws_eqTitleS.tab6 laws_eqTitleS.bits6 (fun HT_ HW_=>?_)
        generalize wr.drew=w9 at HB hx175_0 hx175_1 hx175_2 hx176_0 hx176_1 hx176_2 hHeld ⊢
        refine pure_ (i:=0) (N:=some 17) (v:=?_) (a':=?_) #[true,false,false,false,false,false,false,false,false,false] rfl rfl (any_of HT_.out (by kernel_rfl)) (fun _ _ _ h=>h) (Or.inl ⟨by rfl,?_⟩) ?_ ?_
        rotate_left
        ·intro w'
         go_simp
         with_reducible rfl
        rotate_left
        ·simp only [Act.put,List.setIfInBounds_toArray,List.set_cons_zero,List.set_cons_succ,i64_w,i32_w]
         rfl
        refine pure_ (i:=1) (N:=some 18) (v:=?_) (a':=?_) #[true,true,false,false,false,false,false,false,false,false] rfl rfl (any_of HT_.out (by kernel_rfl)) (fun _ _ _ h=>h) (Or.inl ⟨by rfl,?_⟩) ?_ ?_
        rotate_left
        ·intro w'
         go_simp
         with_reducible rfl
        rotate_left
        ·simp only [Act.put,List.setIfInBounds_toArray,List.set_cons_zero,List.set_cons_succ,i64_w,i32_w]
         rfl
        refine pure_ (i:=2) (N:=some 19) (v:=?_) (a':=?_) #[true,true,true,false,false,false,false,false,false,false] rfl rfl (any_of HT_.out (by kernel_rfl)) (fun _ _ _ h=>h) (Or.inl ⟨by rfl,?_⟩) ?_ ?_
        rotate_left
        ·intro w'
         go_simp
         with_reducible rfl
        rotate_left
        ·simp only [Act.put,List.setIfInBounds_toArray,List.set_cons_zero,List.set_cons_succ,i64_w,i32_w]
         rfl
        refine pure_ (i:=4) (N:=some 21) (v:=?_) (a':=?_) #[true,true,true,false,true,false,false,false,false,false] rfl rfl (any_of HT_.out (by kernel_rfl)) (fun _ _ _ h=>h) (Or.inl ⟨by rfl,?_⟩) ?_ ?_
        rotate_left
        ·intro w'
         go_simp
         with_reducible rfl
        rotate_left
        ·simp only [Act.put,List.setIfInBounds_toArray,List.set_cons_zero,List.set_cons_succ,i64_w,i32_w]
         rfl
        refine pure_ (i:=5) (N:=some 22) (v:=?_) (a':=?_) #[true,true,true,false,true,true,false,false,false,false] rfl rfl (any_of HT_.out (by kernel_rfl)) (fun _ _ _ h=>h) (Or.inl ⟨by rfl,?_⟩) ?_ ?_
        rotate_left
        ·intro w'
         go_simp
         with_reducible rfl
        rotate_left
        ·simp only [Act.put,List.setIfInBounds_toArray,List.set_cons_zero,List.set_cons_succ,i64_w,i32_w]
         rfl
        refine pure_ (i:=6) (N:=some 23) (v:=?_) (a':=?_) #[true,true,true,false,true,true,true,false,false,false] rfl rfl (any_of HT_.out (by kernel_rfl)) (fun _ _ _ h=>h) (Or.inl ⟨by rfl,?_⟩) ?_ ?_
        rotate_left
        ·intro w'
         go_simp
         with_reducible rfl
        rotate_left
        ·simp only [Act.put,List.setIfInBounds_toArray,List.set_cons_zero,List.set_cons_succ,i64_w,i32_w]
         rfl
        refine take_ (i:=3) (N:=some 20) (v:=?_) (a':=?_) #[true,true,true,true,true,true,true,false,false,false] rfl rfl (take_ofW HT_.out HW_.out (by kernel_rfl)) (fun _ _ _ h=>h) (Or.inl ⟨by rfl,?_⟩) hHeld ?_ ?_
        rotate_left
        ·rintro w' ⟨s0,s1,s2,s3,s4,s5⟩
         go_simp
         with_reducible rfl
        rotate_left
        ·simp only [Act.put,List.setIfInBounds_toArray,List.set_cons_zero,List.set_cons_succ,i64_w,i32_w]
         rfl
        refine take_ (i:=7) (N:=some 24) (v:=?_) (a':=?_) #[true,true,true,true,true,true,true,true,false,false] rfl rfl (take_ofW HT_.out HW_.out (by kernel_rfl)) (fun _ _ _ h=>h) (Or.inl ⟨by rfl,?_⟩) hHeld ?_ ?_
        rotate_left
        ·rintro w' ⟨s0,s1,s2,s3,s4,s5⟩
         go_simp
         with_reducible rfl
        rotate_left
        ·simp only [Act.put,List.setIfInBounds_toArray,List.set_cons_zero,List.set_cons_succ,i64_w,i32_w]
         rfl
        refine one_ (i:=8) (N:=some 25) #[true,true,true,true,true,true,true,true,true,false] rfl rfl (one_of HT_.out (by kernel_rfl)) (by decide) (fun K hK=>?_)
        refine goes_ Tryd.func29 (by kernel_rfl) rfl #[.agg #[.int .i64 ((rd_T40 l0 x5_1).f0),.int .i64 ((rd_T40 l0 x5_1).f1),.string ((rd_T40 l0 x5_1).f2)],.agg #[.int .i64 ((rd_T40 l1 x5_1).f0),.int .i64 ((rd_T40 l1 x5_1).f1),.string ((rd_T40 l1 x5_1).f2)]] (by rfl) rfl rfl (by(try simp only [List.map_toArray,List.map_cons,List.map_nil]);first|done|rfl|(simp only [List.length_drop,List.length_take];rfl)) ?_
        with_reducible refine(laws_eqTitle.calls ((rd_T40 l0 x5_1).f0) ((rd_T40 l0 x5_1).f1) ((rd_T40 l0 x5_1).f2) ((rd_T40 l1 x5_1).f0) ((rd_T40 l1 x5_1).f1) ((rd_T40 l1 x5_1).f2) true _ A7.out).mono ?_
        rintro e w10 ⟨rfl,hb⟩
        refine⟨_,rfl,?_⟩
        have n0_:=Ha (Hl (by repeat(first|(with_reducible first|exact HB.out|apply He|apply Hb|apply Hd)|exact HB.out)) hb)
        clear HB
        have HB:=n0_
        clear n0_
        (try clear hb)
        (try clear hb2)
        (try clear hk)
        (try clear hi)
        refine hK.out _ _ ⟨((HB.out.cell (World.block_lt_of_cell? w _ hw175_0)).trans hw175_0),((HB.out.cell (World.block_lt_of_cell? w _ hw175_1)).trans hw175_1),((HB.out.cell (World.block_lt_of_cell? w _ hw175_2)).trans hw175_2),((HB.out.cell (World.block_lt_of_cell? w _ hw176_0)).trans hw176_0),((HB.out.cell (World.block_lt_of_cell? w _ hw176_1)).trans hw176_1),((HB.out.cell (World.block_lt_of_cell? w _ hw176_2)).trans hw176_2)⟩ (fun hHeld=>?_)
        clear hK K
        refine norm_ (a':=?_) ?_ ?_
        rotate_left
        ·show Act.put _ (some 25) _=_
         simp only [Act.put,List.setIfInBounds_toArray,List.set_cons_zero,List.set_cons_succ,i64_w,i32_w]
         rfl
        refine pure_ (i:=9) (N:=some 26) (v:=?_) (a':=?_) #[true,true,true,true,true,true,true,true,true,true] rfl rfl (any_of HT_.out (by kernel_rfl)) (fun _ _ _ h=>h) (Or.inl ⟨by rfl,?_⟩) ?_ ?_
        rotate_left
        ·intro w'
         go_simp
         with_reducible rfl
        rotate_left
        ·simp only [Act.put,List.setIfInBounds_toArray,List.set_cons_zero,List.set_cons_succ,i64_w,i32_w]
         rfl
        refine done_ (done_of HT_.out (by kernel_rfl)) ?_
        try go_wp2
        go_roundg k1
        case measure=>have:=HK1.out;omega
        case rel=>exact⟨(wrap64 (x5_1+1)),(by first|rfl|(simp;done)|(simp [*];done)),H',⟨by have:=HK1.out;omega⟩,⟨by repeat(first|(with_reducible first|exact HB.out|apply He|apply Hb|apply Hd)|exact HB.out)⟩⟩
       ·replace c8:=Bool.eq_false_iff.mpr c8
        subst c8
        have H1:(some false)=some r:=by rw [if_neg (show ¬ (false=true) by decide)] at H;exact H
        clear H
        have H:=H1
        clear H1
        obtain rfl:=Option.some.inj H
        try go_wp2
        have n0_:=Ha (Hd HB.out)
        clear HB
        have HB:=n0_
        clear n0_
        have p175:0≤(x5_1:Int):=of_decide_eq_true (by first|(with_reducible assumption)|assumption)
        have q175:x5_1 < (l0.length:Int):=of_decide_eq_true (by first|(with_reducible assumption)|assumption)
        obtain⟨ad175,e175,hx175_0,hx175_1,hx175_2⟩:=at_T40 HR0.out x5_1 p175 q175
        have hw175_2:=hx175_2
        have hw175_1:=hx175_1
        have hw175_0:=hx175_0
        cases e175
        replace hx175_0:=(HB.out.cell (World.block_lt_of_cell? w _ hx175_0)).trans hx175_0
        replace hx175_1:=(HB.out.cell (World.block_lt_of_cell? w _ hx175_1)).trans hx175_1
        replace hx175_2:=(HB.out.cell (World.block_lt_of_cell? w _ hx175_2)).trans hx175_2
        replace p175:=eq_true p175
        replace q175:=eq_true q175
        have p176:0≤(x5_1:Int):=of_decide_eq_true (by first|(with_reducible assumption)|assumption)
        have q176:x5_1 < (l1.length:Int):=of_decide_eq_true (by first|(with_reducible assumption)|assumption)
        obtain⟨ad176,e176,hx176_0,hx176_1,hx176_2⟩:=at_T40 HR1.out x5_1 p176 q176
        have hw176_2:=hx176_2
        have hw176_1:=hx176_1
        have hw176_0:=hx176_0
        cases e176
        replace hx176_0:=(HB.out.cell (World.block_lt_of_cell? w _ hx176_0)).trans hx176_0
        replace hx176_1:=(HB.out.cell (World.block_lt_of_cell? w _ hx176_1)).trans hx176_1
        replace hx176_2:=(HB.out.cell (World.block_lt_of_cell? w _ hx176_2)).trans hx176_2
        replace p176:=eq_true p176
        replace q176:=eq_true q176
        refine start_ (n:=10) (S:=fun w'=>w'.cell? (ad175.add ((x5_1).toNat*3))=some (.int .i64 ((rd_T40 l0 x5_1).f0))∧w'.cell? ⟨(ad175.add ((x5_1).toNat*3)).block,(ad175.add ((x5_1).toNat*3)).off+1,none⟩=some (.int .i64 ((rd_T40 l0 x5_1).f1))∧w'.cell? ⟨(ad175.add ((x5_1).toNat*3)).block,(ad175.add ((x5_1).toNat*3)).off+2,none⟩=some (.string ((rd_T40 l0 x5_1).f2))∧w'.cell? (ad176.add ((x5_1).toNat*3))=some (.int .i64 ((rd_T40 l1 x5_1).f0))∧w'.cell? ⟨(ad176.add ((x5_1).toNat*3)).block,(ad176.add ((x5_1).toNat*3)).off+1,none⟩=some (.int .i64 ((rd_T40 l1 x5_1).f1))∧w'.cell? ⟨(ad176.add ((x5_1).toNat*3)).block,(ad176.add ((x5_1).toNat*3)).off+2,none⟩=some (.string ((rd_T40 l1 x5_1).f2))) (ds:=[]) #[false,false,false,false,false,false,false,false,false,false] (by kernel_rfl) rfl rfl ⟨((HB.out.cell (World.block_lt_of_cell? w _ hw175_0)).trans hw175_0),((HB.out.cell (World.block_lt_of_cell? w _ hw175_1)).trans hw175_1),((HB.out.cell (World.block_lt_of_cell? w _ hw175_2)).trans hw175_2),((HB.out.cell (World.block_lt_of_cell? w _ hw176_0)).trans hw176_0),((HB.out.cell (World.block_lt_of_cell? w _ hw176_1)).trans hw176_1),((HB.out.cell (World.block_lt_of_cell? w _ hw176_2)).trans hw176_2)⟩ (fun hHeld=>?_);refine with_tabW laws_eqTitleS.tab6 laws_eqTitleS.bits6 (fun HT_ HW_=>?_)
        generalize wr.drew=w11 at HB hx175_0 hx175_1 hx175_2 hx176_0 hx176_1 hx176_2 hHeld ⊢
        refine pure_ (i:=0) (N:=some 17) (v:=?_) (a':=?_) #[true,false,false,false,false,false,false,false,false,false] rfl rfl (any_of HT_.out (by kernel_rfl)) (fun _ _ _ h=>h) (Or.inl ⟨by rfl,?_⟩) ?_ ?_
        rotate_left
        ·intro w'
         go_simp
         with_reducible rfl
        rotate_left
        ·simp only [Act.put,List.setIfInBounds_toArray,List.set_cons_zero,List.set_cons_succ,i64_w,i32_w]
         rfl
        refine pure_ (i:=1) (N:=some 18) (v:=?_) (a':=?_) #[true,true,false,false,false,false,false,false,false,false] rfl rfl (any_of HT_.out (by kernel_rfl)) (fun _ _ _ h=>h) (Or.inl ⟨by rfl,?_⟩) ?_ ?_
        rotate_left
        ·intro w'
         go_simp
         with_reducible rfl
        rotate_left
        ·simp only [Act.put,List.setIfInBounds_toArray,List.set_cons_zero,List.set_cons_succ,i64_w,i32_w]
         rfl
        refine pure_ (i:=2) (N:=some 19) (v:=?_) (a':=?_) #[true,true,true,false,false,false,false,false,false,false] rfl rfl (any_of HT_.out (by kernel_rfl)) (fun _ _ _ h=>h) (Or.inl ⟨by rfl,?_⟩) ?_ ?_
        rotate_left
        ·intro w'
         go_simp
         with_reducible rfl
        rotate_left
        ·simp only [Act.put,List.setIfInBounds_toArray,List.set_cons_zero,List.set_cons_succ,i64_w,i32_w]
         rfl
        refine pure_ (i:=4) (N:=some 21) (v:=?_) (a':=?_) #[true,true,true,false,true,false,false,false,false,false] rfl rfl (any_of HT_.out (by kernel_rfl)) (fun _ _ _ h=>h) (Or.inl ⟨by rfl,?_⟩) ?_ ?_
        rotate_left
        ·intro w'
         go_simp
         with_reducible rfl
        rotate_left
        ·simp only [Act.put,List.setIfInBounds_toArray,List.set_cons_zero,List.set_cons_succ,i64_w,i32_w]
         rfl
        refine pure_ (i:=5) (N:=some 22) (v:=?_) (a':=?_) #[true,true,true,false,true,true,false,false,false,false] rfl rfl (any_of HT_.out (by kernel_rfl)) (fun _ _ _ h=>h) (Or.inl ⟨by rfl,?_⟩) ?_ ?_
        rotate_left
        ·intro w'
         go_simp
         with_reducible rfl
        rotate_left
        ·simp only [Act.put,List.setIfInBounds_toArray,List.set_cons_zero,List.set_cons_succ,i64_w,i32_w]
         rfl
        refine pure_ (i:=6) (N:=some 23) (v:=?_) (a':=?_) #[true,true,true,false,true,true,true,false,false,false] rfl rfl (any_of HT_.out (by kernel_rfl)) (fun _ _ _ h=>h) (Or.inl ⟨by rfl,?_⟩) ?_ ?_
        rotate_left
        ·intro w'
         go_simp
         with_reducible rfl
        rotate_left
        ·simp only [Act.put,List.setIfInBounds_toArray,List.set_cons_zero,List.set_cons_succ,i64_w,i32_w]
         rfl
        refine take_ (i:=3) (N:=some 20) (v:=?_) (a':=?_) #[true,true,true,true,true,true,true,false,false,false] rfl rfl (take_ofW HT_.out HW_.out (by kernel_rfl)) (fun _ _ _ h=>h) (Or.inl ⟨by rfl,?_⟩) hHeld ?_ ?_
        rotate_left
        ·rintro w' ⟨s0,s1,s2,s3,s4,s5⟩
         go_simp
         with_reducible rfl
        rotate_left
        ·simp only [Act.put,List.setIfInBounds_toArray,List.set_cons_zero,List.set_cons_succ,i64_w,i32_w]
         rfl
        refine take_ (i:=7) (N:=some 24) (v:=?_) (a':=?_) #[true,true,true,true,true,true,true,true,false,false] rfl rfl (take_ofW HT_.out HW_.out (by kernel_rfl)) (fun _ _ _ h=>h) (Or.inl ⟨by rfl,?_⟩) hHeld ?_ ?_
        rotate_left
        ·rintro w' ⟨s0,s1,s2,s3,s4,s5⟩
         go_simp
         with_reducible rfl
        rotate_left
        ·simp only [Act.put,List.setIfInBounds_toArray,List.set_cons_zero,List.set_cons_succ,i64_w,i32_w]
         rfl
        refine one_ (i:=8) (N:=some 25) #[true,true,true,true,true,true,true,true,true,false] rfl rfl (one_of HT_.out (by kernel_rfl)) (by decide) (fun K hK=>?_)
        refine goes_ Tryd.func29 (by kernel_rfl) rfl #[.agg #[.int .i64 ((rd_T40 l0 x5_1).f0),.int .i64 ((rd_T40 l0 x5_1).f1),.string ((rd_T40 l0 x5_1).f2)],.agg #[.int .i64 ((rd_T40 l1 x5_1).f0),.int .i64 ((rd_T40 l1 x5_1).f1),.string ((rd_T40 l1 x5_1).f2)]] (by rfl) rfl rfl (by(try simp only [List.map_toArray,List.map_cons,List.map_nil]);first|done|rfl|(simp only [List.length_drop,List.length_take];rfl)) ?_
        with_reducible refine(laws_eqTitle.calls ((rd_T40 l0 x5_1).f0) ((rd_T40 l0 x5_1).f1) ((rd_T40 l0 x5_1).f2) ((rd_T40 l1 x5_1).f0) ((rd_T40 l1 x5_1).f1) ((rd_T40 l1 x5_1).f2) false _ A7.out).mono ?_
        rintro e w12 ⟨rfl,hb⟩
        refine⟨_,rfl,?_⟩
        have n0_:=Ha (Hl (by repeat(first|(with_reducible first|exact HB.out|apply He|apply Hb|apply Hd)|exact HB.out)) hb)
        clear HB
        have HB:=n0_
        clear n0_
        (try clear hb)
        (try clear hb2)
        (try clear hk)
        (try clear hi)
        refine hK.out _ _ ⟨((HB.out.cell (World.block_lt_of_cell? w _ hw175_0)).trans hw175_0),((HB.out.cell (World.block_lt_of_cell? w _ hw175_1)).trans hw175_1),((HB.out.cell (World.block_lt_of_cell? w _ hw175_2)).trans hw175_2),((HB.out.cell (World.block_lt_of_cell? w _ hw176_0)).trans hw176_0),((HB.out.cell (World.block_lt_of_cell? w _ hw176_1)).trans hw176_1),((HB.out.cell (World.block_lt_of_cell? w _ hw176_2)).trans hw176_2)⟩ (fun hHeld=>?_)
        clear hK K
        refine norm_ (a':=?_) ?_ ?_
        rotate_left
        ·show Act.put _ (some 25) _=_
         simp only [Act.put,List.setIfInBounds_toArray,List.set_cons_zero,List.set_cons_succ,i64_w,i32_w]
         rfl
        refine pure_ (i:=9) (N:=some 26) (v:=?_) (a':=?_) #[true,true,true,true,true,true,true,true,true,true] rfl rfl (any_of HT_.out (by kernel_rfl)) (fun _ _ _ h=>h) (Or.inl ⟨by rfl,?_⟩) ?_ ?_
        rotate_left
        ·intro w'
         go_simp
         with_reducible rfl
        rotate_left
        ·simp only [Act.put,List.setIfInBounds_toArray,List.set_cons_zero,List.set_cons_succ,i64_w,i32_w]
         rfl
        refine done_ (done_of HT_.out (by kernel_rfl)) ?_
        try go_wp2
        go_ret
        exact⟨by first|rfl|(simp [errW_none,errW_some] <;> rfl)|(simp [*,errW_none,errW_some] <;> rfl),by repeat(first|(with_reducible first|exact HB.out|apply He|apply Hb|apply Hd)|exact HB.out)⟩
      ·rw [if_neg c6] at H
       exact absurd H (by simp)
     ·rw [if_neg c5] at H
      exact absurd H (by simp)
    ·rw [if_neg c4] at H
     have c4b0:decide (x5_1 < (l0.length:Int))=false:=decide_eq_false c4
     clear c4
     obtain rfl:=Option.some.inj H
     go_wp2
     go_ret
     exact⟨by first|rfl|(simp [errW_none,errW_some] <;> rfl)|(simp [*,errW_none,errW_some] <;> rfl),by repeat(first|(with_reducible first|exact HB.out|apply He|apply Hb|apply Hd)|exact HB.out)⟩
 ·rw [if_neg c3] at H
  have c3b0:((l0.length:Int) == (l1.length:Int))=false:=beq_eq_false_iff_ne.mpr c3
  have c3b1:((l0.length:Int) != (l1.length:Int))=true:=bne_iff_ne.mpr c3
  have c3b2:(l0.length == l1.length)=false:=by first|simpa using c3|(simp at c3 ⊢;omega)
  obtain rfl:=Option.some.inj H
  go_enter Tryd.func10,Tryd.ntmps10
  go_wp2
  go_ret
  exact⟨by first|rfl|(simp [errW_none,errW_some] <;> rfl)|(simp [*,errW_none,errW_some] <;> rfl),by repeat(first|(with_reducible first|exact HB.out|apply He|apply Hb|apply Hd)|exact HB.out)⟩

/-! ### laws_FnExactShowTitles: function 3 -/
def laws_FnExactShowTitles.f (k : Nat) (l0 : List (S44)) : Option (Bool) := (laws_szTitleS.f k l0 1048576).bind fun t178 => (if t178 < 0 then (some true) else ((laws_toTitleS.f k l0).bind fun t179 => ((spec_ShowTitles.f k t179).bind fun t182 => ((laws_toTitleS.f k l0).bind fun t183 => ((impl_ShowTitles.f k t183).bind fun t186 => (if t186.toList = t182.toList then ((laws_toTitleS.f k l0).bind fun t187 => ((laws_eqTitleS.f k t183 t187).bind fun t190 => (if t190 = true then (some true) else (some false)))) else (some false)))))))
theorem laws_FnExactShowTitles.mono : ∀ a0 k, LeO (laws_FnExactShowTitles.f k a0) (laws_FnExactShowTitles.f (k + 1) a0) := by
 intro a0 k
 unfold laws_FnExactShowTitles.f
 repeat' first
   | (with_reducible exact impl_ShowTitles.mono _ _)
   | (with_reducible exact laws_eqTitleS.mono _ _ _)
   | (with_reducible exact laws_szTitleS.mono _ _ _)
   | (with_reducible exact laws_toTitleS.mono _ _)
   | (with_reducible exact spec_ShowTitles.mono _ _)
   | (with_reducible exact LeO.refl _)
   | (with_reducible exact LeO.none _)
   | (with_reducible refine LeO.ite ?_ ?_)
   | (with_reducible refine LeO.bind ?_ (fun _ => ?_))
   | exact impl_ShowTitles.mono _ _
   | exact laws_eqTitleS.mono _ _ _
   | exact laws_szTitleS.mono _ _ _
   | exact laws_toTitleS.mono _ _
   | exact spec_ShowTitles.mono _ _
   | exact LeO.none _
   | refine LeO.ite ?_ ?_
   | refine LeO.bind ?_ (fun _ => ?_)
set_option maxHeartbeats 8000000 in
set_option maxRecDepth 100000 in
theorem laws_FnExactShowTitles.calls (k : Nat) (A0 : Option Addr) (c0 : Nat) (l0 : List (S44)) (r : Bool) (w : World) (hgl : Glob w) (hr0 : Kd.C k44 w A0 l0.length l0) (hc0 : l0.length ≤ c0) (h : laws_FnExactShowTitles.f k l0 = some r) :
  Calls Tryd.prog 3 #[.slice A0 l0.length c0] w fun e w'=>e=.returned (.bool r)∧Below w.heap.size w w':=by
 have HGL:=Ha hgl
 clear hgl
 have HR0:=Ha hr0
 have HC0:=Ha hc0
 clear hr0 hc0
 have HB:=Ha (Below.refl w.heap.size w)
 have H:((laws_szTitleS.f k l0 1048576).bind fun t178=>(if t178 < 0 then (some true) else ((laws_toTitleS.f k l0).bind fun t179=>((spec_ShowTitles.f k t179).bind fun t182=>((laws_toTitleS.f k l0).bind fun t183=>((impl_ShowTitles.f k t183).bind fun t186=>(if t186.toList=t182.toList then ((laws_toTitleS.f k l0).bind fun t187=>((laws_eqTitleS.f k t183 t187).bind fun t190=>(if t190=true then (some true) else (some false)))) else (some false))))))))=some r:=h
 clear h
 replace H:=Option.bind_eq_some_iff.mp H
 obtain⟨t178,A20,H⟩:=H
 replace H:(if t178 < 0 then (some true) else ((laws_toTitleS.f k l0).bind fun t179=>((spec_ShowTitles.f k t179).bind fun t182=>((laws_toTitleS.f k l0).bind fun t183=>((impl_ShowTitles.f k t183).bind fun t186=>(if t186.toList=t182.toList then ((laws_toTitleS.f k l0).bind fun t187=>((laws_eqTitleS.f k t183 t187).bind fun t190=>(if t190=true then (some true) else (some false)))) else (some false)))))))=some r:=H
 have A2:=Ha A20
 clear A20
 by_cases c3:t178 < 0
 ·rw [if_pos c3] at H
  have c3b0:decide (t178 < 0)=true:=decide_eq_true c3
  clear c3
  obtain rfl:=Option.some.inj H
  go_enter Tryd.func3,Tryd.ntmps3
  go_wp2_with (first|((with_reducible refine Hm (f:=6) rfl ?_);refine goesL_ (some 9) rfl rfl Tryd.func6 (by kernel_rfl) rfl #[.slice A0 l0.length c0,.int .i64 1048576] rfl (by(try simp only [List.map_toArray,List.map_cons,List.map_nil]);first|done|rfl|(simp only [List.length_drop,List.length_take];rfl)) ?_;(with_reducible refine(laws_szTitleS.calls k _ _ l0 1048576 t178 _ ?side1 ?side2 A2.out).mono ?_);(case side1=>repeat(first|exact HR0.out|(with_reducible refine Hi ?_ _)|(with_reducible refine Hj ?_ _)|(with_reducible refine Hf ?_)));(case side2=>exact HC0.out);rintro e w4 ⟨rfl,hb⟩;refine⟨_,rfl,?_⟩;have n0_:=Ha (Hl (by repeat(first|(with_reducible first|exact HB.out|apply He|apply Hb|apply Hd)|exact HB.out)) hb);clear HB;have HB:=n0_;clear n0_;(try clear hb);(try clear hb2);(try clear hk);(try clear hi)))
  go_ret
  exact⟨by first|rfl|(simp [errW_none,errW_some] <;> rfl)|(simp [*,errW_none,errW_some] <;> rfl),by repeat(first|(with_reducible first|exact HB.out|apply He|apply Hb|apply Hd)|exact HB.out)⟩
 ·rw [if_neg c3] at H
  have c3b0:decide (t178 < 0)=false:=decide_eq_false c3
  clear c3
  replace H:=Option.bind_eq_some_iff.mp H
  obtain⟨t179,A50,H⟩:=H
  replace H:((spec_ShowTitles.f k t179).bind fun t182=>((laws_toTitleS.f k l0).bind fun t183=>((impl_ShowTitles.f k t183).bind fun t186=>(if t186.toList=t182.toList then ((laws_toTitleS.f k l0).bind fun t187=>((laws_eqTitleS.f k t183 t187).bind fun t190=>(if t190=true then (some true) else (some false)))) else (some false)))))=some r:=H
  have A5:=Ha A50
  clear A50
  replace H:=Option.bind_eq_some_iff.mp H
  obtain⟨t182,A60,H⟩:=H
  replace H:((laws_toTitleS.f k l0).bind fun t183=>((impl_ShowTitles.f k t183).bind fun t186=>(if t186.toList=t182.toList then ((laws_toTitleS.f k l0).bind fun t187=>((laws_eqTitleS.f k t183 t187).bind fun t190=>(if t190=true then (some true) else (some false)))) else (some false))))=some r:=H
  have A6:=Ha A60
  clear A60
  replace H:=Option.bind_eq_some_iff.mp H
  obtain⟨t183,A70,H⟩:=H
  replace H:((impl_ShowTitles.f k t183).bind fun t186=>(if t186.toList=t182.toList then ((laws_toTitleS.f k l0).bind fun t187=>((laws_eqTitleS.f k t183 t187).bind fun t190=>(if t190=true then (some true) else (some false)))) else (some false)))=some r:=H
  have A7:=Ha A70
  clear A70
  replace H:=Option.bind_eq_some_iff.mp H
  obtain⟨t186,A80,H⟩:=H
  replace H:(if t186.toList=t182.toList then ((laws_toTitleS.f k l0).bind fun t187=>((laws_eqTitleS.f k t183 t187).bind fun t190=>(if t190=true then (some true) else (some false)))) else (some false))=some r:=H
  have A8:=Ha A80
  clear A80
  by_cases c9:t186.toList=t182.toList
  ·rw [if_pos c9] at H
   have c9b0:(t186.toList == t182.toList)=true:=beq_iff_eq.mpr c9
   have c9b1:(t186.toList != t182.toList)=false:=bne_eq_false_iff_eq.mpr c9
   clear c9
   replace H:=Option.bind_eq_some_iff.mp H
   obtain⟨t187,A100,H⟩:=H
   replace H:((laws_eqTitleS.f k t183 t187).bind fun t190=>(if t190=true then (some true) else (some false)))=some r:=H
   have A10:=Ha A100
   clear A100
   replace H:=Option.bind_eq_some_iff.mp H
   obtain⟨t190,A110,H⟩:=H
   replace H:(if t190=true then (some true) else (some false))=some r:=H
   have A11:=Ha A110
   clear A110
   by_cases c12:t190=true
   ·subst c12
    have H1:(some true)=some r:=by rw [if_pos rfl] at H;exact H
    clear H
    have H:=H1
    clear H1
    obtain rfl:=Option.some.inj H
    go_enter Tryd.func3,Tryd.ntmps3
    go_wp2_with (first|((with_reducible refine Hm (f:=6) rfl ?_);refine goesL_ (some 9) rfl rfl Tryd.func6 (by kernel_rfl) rfl #[.slice A0 l0.length c0,.int .i64 1048576] rfl (by(try simp only [List.map_toArray,List.map_cons,List.map_nil]);first|done|rfl|(simp only [List.length_drop,List.length_take];rfl)) ?_;(with_reducible refine(laws_szTitleS.calls k _ _ l0 1048576 t178 _ ?side1 ?side2 A2.out).mono ?_);(case side1=>repeat(first|exact HR0.out|(with_reducible refine Hi ?_ _)|(with_reducible refine Hj ?_ _)|(with_reducible refine Hf ?_)));(case side2=>exact HC0.out);rintro e w13 ⟨rfl,hb⟩;refine⟨_,rfl,?_⟩;have n0_:=Ha (Hl (by repeat(first|(with_reducible first|exact HB.out|apply He|apply Hb|apply Hd)|exact HB.out)) hb);clear HB;have HB:=n0_;clear n0_;(try clear hb);(try clear hb2);(try clear hk);(try clear hi))|((with_reducible refine Hm (f:=8) rfl ?_);refine goesL_ (some 13) rfl rfl Tryd.func8 (by kernel_rfl) rfl #[.slice A0 l0.length c0] rfl (by(try simp only [List.map_toArray,List.map_cons,List.map_nil]);first|done|rfl|(simp only [List.length_drop,List.length_take];rfl)) ?_;(with_reducible refine(laws_toTitleS.calls k _ _ l0 t179 _ ?side1 ?side2 A5.out).mono ?_);(case side1=>repeat(first|exact(Kd.C_below HR0.out HB.out)|(with_reducible refine Hi ?_ _)|(with_reducible refine Hj ?_ _)|(with_reducible refine Hf ?_)));(case side2=>exact HC0.out);rintro e w14 ⟨v180,rfl,qe,hb⟩;refine⟨_,rfl,?_⟩;have n0_:=Ha (Kd.R_lower qe (below_size (by repeat(first|(with_reducible first|exact HB.out|apply He|apply Hb|apply Hd)|exact HB.out))));have qc:=Ha (Hl (by repeat(first|(with_reducible first|exact HB.out|apply He|apply Hb|apply Hd)|exact HB.out)) hb);clear HB;have qa:=n0_;have HB:=qc;clear n0_ qc;(try clear hb);(try clear hb2);(try clear hk);(try clear hi);(try clear qe);obtain⟨Ao15,co15,eo15⟩:=Kd.R_slice qa.out;subst eo15)|((with_reducible refine Hm (f:=7) rfl ?_);refine goesL_ (some 14) rfl rfl Tryd.func7 (by kernel_rfl) rfl #[.slice Ao15 t179.length co15] rfl (by(try simp only [List.map_toArray,List.map_cons,List.map_nil]);first|done|rfl|(simp only [List.length_drop,List.length_take];rfl)) ?_;(with_reducible refine(spec_ShowTitles.calls k _ _ t179 t182 _ ?side1 ?side2 A6.out).mono ?_);(case side1=>repeat(first|exact(Hk qa.out).2.2|(with_reducible refine Hi ?_ _)|(with_reducible refine Hj ?_ _)|(with_reducible refine Hf ?_)));(case side2=>exact(Hk qa.out).2.1);rintro e w16 ⟨rfl,hb⟩;refine⟨_,rfl,?_⟩;have n0_:=Ha (Kd.R_below (by(with_reducible repeat(first|apply Hg|apply Hh|apply Hc));exact qa.out) hb);have qc:=Ha (Hl (by repeat(first|(with_reducible first|exact HB.out|apply He|apply Hb|apply Hd)|exact HB.out)) hb);clear qa;clear HB;have qa:=n0_;have HB:=qc;clear n0_ qc;(try clear hb);(try clear hb2);(try clear hk);(try clear hi))|((with_reducible refine Hm (f:=8) rfl ?_);refine goesL_ (some 16) rfl rfl Tryd.func8 (by kernel_rfl) rfl #[.slice A0 l0.length c0] rfl (by(try simp only [List.map_toArray,List.map_cons,List.map_nil]);first|done|rfl|(simp only [List.length_drop,List.length_take];rfl)) ?_;(with_reducible refine(laws_toTitleS.calls k _ _ l0 t183 _ ?side1 ?side2 A7.out).mono ?_);(case side1=>repeat(first|exact(Kd.C_below HR0.out HB.out)|(with_reducible refine Hi ?_ _)|(with_reducible refine Hj ?_ _)|(with_reducible refine Hf ?_)));(case side2=>exact HC0.out);rintro e w17 ⟨v184,rfl,qe,hb⟩;refine⟨_,rfl,?_⟩;have n0_:=Ha (Kd.R_elder' (by(with_reducible repeat(first|apply Hg|apply Hh|apply Hc));exact qa.out) (Kd.R_base qe) hb);have qc:=Ha (Kd.R_lower (Kd.R_new' qe (Kd.R_lt (by(with_reducible repeat(first|apply Hg|apply Hh|apply Hc));exact qa.out))) (below_size (by repeat(first|(with_reducible first|exact HB.out|apply He|apply Hb|apply Hd)|exact HB.out))));have qf:=Ha (Hl (by repeat(first|(with_reducible first|exact HB.out|apply He|apply Hb|apply Hd)|exact HB.out)) hb);clear qa;clear HB;have qa:=n0_;have qb:=qc;have HB:=qf;clear n0_ qc qf;(try clear hb);(try clear hb2);(try clear hk);(try clear hi);(try clear qe);obtain⟨Ao18,co18,eo18⟩:=Kd.R_slice qb.out;subst eo18)|((with_reducible refine Hm (f:=9) rfl ?_);refine goesL_ (some 18) rfl rfl Tryd.func9 (by kernel_rfl) rfl #[.slice Ao18 t183.length co18] rfl (by(try simp only [List.map_toArray,List.map_cons,List.map_nil]);first|done|rfl|(simp only [List.length_drop,List.length_take];rfl)) ?_;(with_reducible refine(impl_ShowTitles.calls k _ _ t183 t186 _ (by first|exact HGL.out|((repeat(with_reducible refine Glob.drewN ?_));exact HGL.out)|exact Glob.below HGL.out (by repeat(first|(with_reducible first|exact HB.out|apply He|apply Hb|apply Hd)|exact HB.out))) ?side1 ?side2 A8.out).mono ?_);(case side1=>repeat(first|exact(Hk qb.out).2.2|(with_reducible refine Hi ?_ _)|(with_reducible refine Hj ?_ _)|(with_reducible refine Hf ?_)));(case side2=>exact(Hk qb.out).2.1);rintro e w19 ⟨rfl,hb⟩;refine⟨_,rfl,?_⟩;have n0_:=Ha (Kd.R_below (by(with_reducible repeat(first|apply Hg|apply Hh|apply Hc));exact qa.out) hb);have qc:=Ha (Kd.R_below (by(with_reducible repeat(first|apply Hg|apply Hh|apply Hc));exact qb.out) hb);have qf:=Ha (Hl (by repeat(first|(with_reducible first|exact HB.out|apply He|apply Hb|apply Hd)|exact HB.out)) hb);clear qa;clear qb;clear HB;have qa:=n0_;have qb:=qc;have HB:=qf;clear n0_ qc qf;(try clear hb);(try clear hb2);(try clear hk);(try clear hi))|((with_reducible refine Hm (f:=8) rfl ?_);refine goesL_ (some 24) rfl rfl Tryd.func8 (by kernel_rfl) rfl #[.slice A0 l0.length c0] rfl (by(try simp only [List.map_toArray,List.map_cons,List.map_nil]);first|done|rfl|(simp only [List.length_drop,List.length_take];rfl)) ?_;(with_reducible refine(laws_toTitleS.calls k _ _ l0 t187 _ ?side1 ?side2 A10.out).mono ?_);(case side1=>repeat(first|exact(Kd.C_below HR0.out HB.out)|(with_reducible refine Hi ?_ _)|(with_reducible refine Hj ?_ _)|(with_reducible refine Hf ?_)));(case side2=>exact HC0.out);rintro e w20 ⟨v188,rfl,qe,hb⟩;refine⟨_,rfl,?_⟩;have n0_:=Ha (Kd.R_elder' (by(with_reducible repeat(first|apply Hg|apply Hh|apply Hc));exact qa.out) (Kd.R_base qe) hb);have qc:=Ha (Kd.R_elder' (by(with_reducible repeat(first|apply Hg|apply Hh|apply Hc));exact qb.out) (Kd.R_base qe) hb);have qf:=Ha (Kd.R_lower (Kd.R_new' (Kd.R_new' qe (Kd.R_lt (by(with_reducible repeat(first|apply Hg|apply Hh|apply Hc));exact qa.out))) (Kd.R_lt (by(with_reducible repeat(first|apply Hg|apply Hh|apply Hc));exact qb.out))) (below_size (by repeat(first|(with_reducible first|exact HB.out|apply He|apply Hb|apply Hd)|exact HB.out))));have n3_:=Ha (Hl (by repeat(first|(with_reducible first|exact HB.out|apply He|apply Hb|apply Hd)|exact HB.out)) hb);clear qa;clear qb;clear HB;have qa:=n0_;have qb:=qc;have qd:=qf;have HB:=n3_;clear n0_ qc qf n3_;(try clear hb);(try clear hb2);(try clear hk);(try clear hi);(try clear qe);obtain⟨Ao21,co21,eo21⟩:=Kd.R_slice qd.out;subst eo21)|((with_reducible refine Hm (f:=10) rfl ?_);refine goesL_ (some 25) rfl rfl Tryd.func10 (by kernel_rfl) rfl #[.slice Ao18 t183.length co18,.slice Ao21 t187.length co21] rfl (by(try simp only [List.map_toArray,List.map_cons,List.map_nil]);first|done|rfl|(simp only [List.length_drop,List.length_take];rfl)) ?_;(with_reducible refine(laws_eqTitleS.calls k _ _ t183 _ _ t187 true _ ?side1 ?side2 ?side3 ?side4 A11.out).mono ?_);(case side1=>repeat(first|exact(Hk qb.out).2.2|(with_reducible refine Hi ?_ _)|(with_reducible refine Hj ?_ _)|(with_reducible refine Hf ?_)));(case side2=>exact(Hk qb.out).2.1);(case side3=>repeat(first|exact(Hk qd.out).2.2|(with_reducible refine Hi ?_ _)|(with_reducible refine Hj ?_ _)|(with_reducible refine Hf ?_)));(case side4=>exact(Hk qd.out).2.1);rintro e w22 ⟨rfl,hb⟩;refine⟨_,rfl,?_⟩;have n0_:=Ha (Kd.R_below (by(with_reducible repeat(first|apply Hg|apply Hh|apply Hc));exact qa.out) hb);have qc:=Ha (Kd.R_below (by(with_reducible repeat(first|apply Hg|apply Hh|apply Hc));exact qb.out) hb);have qf:=Ha (Kd.R_below (by(with_reducible repeat(first|apply Hg|apply Hh|apply Hc));exact qd.out) hb);have n3_:=Ha (Hl (by repeat(first|(with_reducible first|exact HB.out|apply He|apply Hb|apply Hd)|exact HB.out)) hb);clear qa;clear qb;clear qd;clear HB;have qa:=n0_;have qb:=qc;have qd:=qf;have HB:=n3_;clear n0_ qc qf n3_;(try clear hb);(try clear hb2);(try clear hk);(try clear hi)))
    go_ret
    exact⟨by first|rfl|(simp [errW_none,errW_some] <;> rfl)|(simp [*,errW_none,errW_some] <;> rfl),by repeat(first|(with_reducible first|exact HB.out|apply He|apply Hb|apply Hd)|exact HB.out)⟩
   ·replace c12:=Bool.eq_false_iff.mpr c12
    subst c12
    have H1:(some false)=some r:=by rw [if_neg (show ¬ (false=true) by decide)] at H;exact H
    clear H
    have H:=H1
    clear H1
    obtain rfl:=Option.some.inj H
    go_enter Tryd.func3,Tryd.ntmps3
    go_wp2_with (first|((with_reducible refine Hm (f:=6) rfl ?_);refine goesL_ (some 9) rfl rfl Tryd.func6 (by kernel_rfl) rfl #[.slice A0 l0.length c0,.int .i64 1048576] rfl (by(try simp only [List.map_toArray,List.map_cons,List.map_nil]);first|done|rfl|(simp only [List.length_drop,List.length_take];rfl)) ?_;(with_reducible refine(laws_szTitleS.calls k _ _ l0 1048576 t178 _ ?side1 ?side2 A2.out).mono ?_);(case side1=>repeat(first|exact HR0.out|(with_reducible refine Hi ?_ _)|(with_reducible refine Hj ?_ _)|(with_reducible refine Hf ?_)));(case side2=>exact HC0.out);rintro e w23 ⟨rfl,hb⟩;refine⟨_,rfl,?_⟩;have n0_:=Ha (Hl (by repeat(first|(with_reducible first|exact HB.out|apply He|apply Hb|apply Hd)|exact HB.out)) hb);clear HB;have HB:=n0_;clear n0_;(try clear hb);(try clear hb2);(try clear hk);(try clear hi))|((with_reducible refine Hm (f:=8) rfl ?_);refine goesL_ (some 13) rfl rfl Tryd.func8 (by kernel_rfl) rfl #[.slice A0 l0.length c0] rfl (by(try simp only [List.map_toArray,List.map_cons,List.map_nil]);first|done|rfl|(simp only [List.length_drop,List.length_take];rfl)) ?_;(with_reducible refine(laws_toTitleS.calls k _ _ l0 t179 _ ?side1 ?side2 A5.out).mono ?_);(case side1=>repeat(first|exact(Kd.C_below HR0.out HB.out)|(with_reducible refine Hi ?_ _)|(with_reducible refine Hj ?_ _)|(with_reducible refine Hf ?_)));(case side2=>exact HC0.out);rintro e w24 ⟨v180,rfl,qe,hb⟩;refine⟨_,rfl,?_⟩;have n0_:=Ha (Kd.R_lower qe (below_size (by repeat(first|(with_reducible first|exact HB.out|apply He|apply Hb|apply Hd)|exact HB.out))));have qc:=Ha (Hl (by repeat(first|(with_reducible first|exact HB.out|apply He|apply Hb|apply Hd)|exact HB.out)) hb);clear HB;have qa:=n0_;have HB:=qc;clear n0_ qc;(try clear hb);(try clear hb2);(try clear hk);(try clear hi);(try clear qe);obtain⟨Ao25,co25,eo25⟩:=Kd.R_slice qa.out;subst eo25)|((with_reducible refine Hm (f:=7) rfl ?_);refine goesL_ (some 14) rfl rfl Tryd.func7 (by kernel_rfl) rfl #[.slice Ao25 t179.length co25] rfl (by(try simp only [List.map_toArray,List.map_cons,List.map_nil]);first|done|rfl|(simp only [List.length_drop,List.length_take];rfl)) ?_;(with_reducible refine(spec_ShowTitles.calls k _ _ t179 t182 _ ?side1 ?side2 A6.out).mono ?_);(case side1=>repeat(first|exact(Hk qa.out).2.2|(with_reducible refine Hi ?_ _)|(with_reducible refine Hj ?_ _)|(with_reducible refine Hf ?_)));(case side2=>exact(Hk qa.out).2.1);rintro e w26 ⟨rfl,hb⟩;refine⟨_,rfl,?_⟩;have n0_:=Ha (Kd.R_below (by(with_reducible repeat(first|apply Hg|apply Hh|apply Hc));exact qa.out) hb);have qc:=Ha (Hl (by repeat(first|(with_reducible first|exact HB.out|apply He|apply Hb|apply Hd)|exact HB.out)) hb);clear qa;clear HB;have qa:=n0_;have HB:=qc;clear n0_ qc;(try clear hb);(try clear hb2);(try clear hk);(try clear hi))|((with_reducible refine Hm (f:=8) rfl ?_);refine goesL_ (some 16) rfl rfl Tryd.func8 (by kernel_rfl) rfl #[.slice A0 l0.length c0] rfl (by(try simp only [List.map_toArray,List.map_cons,List.map_nil]);first|done|rfl|(simp only [List.length_drop,List.length_take];rfl)) ?_;(with_reducible refine(laws_toTitleS.calls k _ _ l0 t183 _ ?side1 ?side2 A7.out).mono ?_);(case side1=>repeat(first|exact(Kd.C_below HR0.out HB.out)|(with_reducible refine Hi ?_ _)|(with_reducible refine Hj ?_ _)|(with_reducible refine Hf ?_)));(case side2=>exact HC0.out);rintro e w27 ⟨v184,rfl,qe,hb⟩;refine⟨_,rfl,?_⟩;have n0_:=Ha (Kd.R_elder' (by(with_reducible repeat(first|apply Hg|apply Hh|apply Hc));exact qa.out) (Kd.R_base qe) hb);have qc:=Ha (Kd.R_lower (Kd.R_new' qe (Kd.R_lt (by(with_reducible repeat(first|apply Hg|apply Hh|apply Hc));exact qa.out))) (below_size (by repeat(first|(with_reducible first|exact HB.out|apply He|apply Hb|apply Hd)|exact HB.out))));have qf:=Ha (Hl (by repeat(first|(with_reducible first|exact HB.out|apply He|apply Hb|apply Hd)|exact HB.out)) hb);clear qa;clear HB;have qa:=n0_;have qb:=qc;have HB:=qf;clear n0_ qc qf;(try clear hb);(try clear hb2);(try clear hk);(try clear hi);(try clear qe);obtain⟨Ao28,co28,eo28⟩:=Kd.R_slice qb.out;subst eo28)|((with_reducible refine Hm (f:=9) rfl ?_);refine goesL_ (some 18) rfl rfl Tryd.func9 (by kernel_rfl) rfl #[.slice Ao28 t183.length co28] rfl (by(try simp only [List.map_toArray,List.map_cons,List.map_nil]);first|done|rfl|(simp only [List.length_drop,List.length_take];rfl)) ?_;(with_reducible refine(impl_ShowTitles.calls k _ _ t183 t186 _ (by first|exact HGL.out|((repeat(with_reducible refine Glob.drewN ?_));exact HGL.out)|exact Glob.below HGL.out (by repeat(first|(with_reducible first|exact HB.out|apply He|apply Hb|apply Hd)|exact HB.out))) ?side1 ?side2 A8.out).mono ?_);(case side1=>repeat(first|exact(Hk qb.out).2.2|(with_reducible refine Hi ?_ _)|(with_reducible refine Hj ?_ _)|(with_reducible refine Hf ?_)));(case side2=>exact(Hk qb.out).2.1);rintro e w29 ⟨rfl,hb⟩;refine⟨_,rfl,?_⟩;have n0_:=Ha (Kd.R_below (by(with_reducible repeat(first|apply Hg|apply Hh|apply Hc));exact qa.out) hb);have qc:=Ha (Kd.R_below (by(with_reducible repeat(first|apply Hg|apply Hh|apply Hc));exact qb.out) hb);have qf:=Ha (Hl (by repeat(first|(with_reducible first|exact HB.out|apply He|apply Hb|apply Hd)|exact HB.out)) hb);clear qa;clear qb;clear HB;have qa:=n0_;have qb:=qc;have HB:=qf;clear n0_ qc qf;(try clear hb);(try clear hb2);(try clear hk);(try clear hi))|((with_reducible refine Hm (f:=8) rfl ?_);refine goesL_ (some 24) rfl rfl Tryd.func8 (by kernel_rfl) rfl #[.slice A0 l0.length c0] rfl (by(try simp only [List.map_toArray,List.map_cons,List.map_nil]);first|done|rfl|(simp only [List.length_drop,List.length_take];rfl)) ?_;(with_reducible refine(laws_toTitleS.calls k _ _ l0 t187 _ ?side1 ?side2 A10.out).mono ?_);(case side1=>repeat(first|exact(Kd.C_below HR0.out HB.out)|(with_reducible refine Hi ?_ _)|(with_reducible refine Hj ?_ _)|(with_reducible refine Hf ?_)));(case side2=>exact HC0.out);rintro e w30 ⟨v188,rfl,qe,hb⟩;refine⟨_,rfl,?_⟩;have n0_:=Ha (Kd.R_elder' (by(with_reducible repeat(first|apply Hg|apply Hh|apply Hc));exact qa.out) (Kd.R_base qe) hb);have qc:=Ha (Kd.R_elder' (by(with_reducible repeat(first|apply Hg|apply Hh|apply Hc));exact qb.out) (Kd.R_base qe) hb);have qf:=Ha (Kd.R_lower (Kd.R_new' (Kd.R_new' qe (Kd.R_lt (by(with_reducible repeat(first|apply Hg|apply Hh|apply Hc));exact qa.out))) (Kd.R_lt (by(with_reducible repeat(first|apply Hg|apply Hh|apply Hc));exact qb.out))) (below_size (by repeat(first|(with_reducible first|exact HB.out|apply He|apply Hb|apply Hd)|exact HB.out))));have n3_:=Ha (Hl (by repeat(first|(with_reducible first|exact HB.out|apply He|apply Hb|apply Hd)|exact HB.out)) hb);clear qa;clear qb;clear HB;have qa:=n0_;have qb:=qc;have qd:=qf;have HB:=n3_;clear n0_ qc qf n3_;(try clear hb);(try clear hb2);(try clear hk);(try clear hi);(try clear qe);obtain⟨Ao31,co31,eo31⟩:=Kd.R_slice qd.out;subst eo31)|((with_reducible refine Hm (f:=10) rfl ?_);refine goesL_ (some 25) rfl rfl Tryd.func10 (by kernel_rfl) rfl #[.slice Ao28 t183.length co28,.slice Ao31 t187.length co31] rfl (by(try simp only [List.map_toArray,List.map_cons,List.map_nil]);first|done|rfl|(simp only [List.length_drop,List.length_take];rfl)) ?_;(with_reducible refine(laws_eqTitleS.calls k _ _ t183 _ _ t187 false _ ?side1 ?side2 ?side3 ?side4 A11.out).mono ?_);(case side1=>repeat(first|exact(Hk qb.out).2.2|(with_reducible refine Hi ?_ _)|(with_reducible refine Hj ?_ _)|(with_reducible refine Hf ?_)));(case side2=>exact(Hk qb.out).2.1);(case side3=>repeat(first|exact(Hk qd.out).2.2|(with_reducible refine Hi ?_ _)|(with_reducible refine Hj ?_ _)|(with_reducible refine Hf ?_)));(case side4=>exact(Hk qd.out).2.1);rintro e w32 ⟨rfl,hb⟩;refine⟨_,rfl,?_⟩;have n0_:=Ha (Kd.R_below (by(with_reducible repeat(first|apply Hg|apply Hh|apply Hc));exact qa.out) hb);have qc:=Ha (Kd.R_below (by(with_reducible repeat(first|apply Hg|apply Hh|apply Hc));exact qb.out) hb);have qf:=Ha (Kd.R_below (by(with_reducible repeat(first|apply Hg|apply Hh|apply Hc));exact qd.out) hb);have n3_:=Ha (Hl (by repeat(first|(with_reducible first|exact HB.out|apply He|apply Hb|apply Hd)|exact HB.out)) hb);clear qa;clear qb;clear qd;clear HB;have qa:=n0_;have qb:=qc;have qd:=qf;have HB:=n3_;clear n0_ qc qf n3_;(try clear hb);(try clear hb2);(try clear hk);(try clear hi)))
    go_ret
    exact⟨by first|rfl|(simp [errW_none,errW_some] <;> rfl)|(simp [*,errW_none,errW_some] <;> rfl),by repeat(first|(with_reducible first|exact HB.out|apply He|apply Hb|apply Hd)|exact HB.out)⟩
  ·rw [if_neg c9] at H
   have c9b0:(t186.toList == t182.toList)=false:=beq_eq_false_iff_ne.mpr c9
   have c9b1:(t186.toList != t182.toList)=true:=bne_iff_ne.mpr c9
   obtain rfl:=Option.some.inj H
   go_enter Tryd.func3,Tryd.ntmps3
   go_wp2_with (first|((with_reducible refine Hm (f:=6) rfl ?_);refine goesL_ (some 9) rfl rfl Tryd.func6 (by kernel_rfl) rfl #[.slice A0 l0.length c0,.int .i64 1048576] rfl (by(try simp only [List.map_toArray,List.map_cons,List.map_nil]);first|done|rfl|(simp only [List.length_drop,List.length_take];rfl)) ?_;(with_reducible refine(laws_szTitleS.calls k _ _ l0 1048576 t178 _ ?side1 ?side2 A2.out).mono ?_);(case side1=>repeat(first|exact HR0.out|(with_reducible refine Hi ?_ _)|(with_reducible refine Hj ?_ _)|(with_reducible refine Hf ?_)));(case side2=>exact HC0.out);rintro e w33 ⟨rfl,hb⟩;refine⟨_,rfl,?_⟩;have n0_:=Ha (Hl (by repeat(first|(with_reducible first|exact HB.out|apply He|apply Hb|apply Hd)|exact HB.out)) hb);clear HB;have HB:=n0_;clear n0_;(try clear hb);(try clear hb2);(try clear hk);(try clear hi))|((with_reducible refine Hm (f:=8) rfl ?_);refine goesL_ (some 13) rfl rfl Tryd.func8 (by kernel_rfl) rfl #[.slice A0 l0.length c0] rfl (by(try simp only [List.map_toArray,List.map_cons,List.map_nil]);first|done|rfl|(simp only [List.length_drop,List.length_take];rfl)) ?_;(with_reducible refine(laws_toTitleS.calls k _ _ l0 t179 _ ?side1 ?side2 A5.out).mono ?_);(case side1=>repeat(first|exact(Kd.C_below HR0.out HB.out)|(with_reducible refine Hi ?_ _)|(with_reducible refine Hj ?_ _)|(with_reducible refine Hf ?_)));(case side2=>exact HC0.out);rintro e w34 ⟨v180,rfl,qe,hb⟩;refine⟨_,rfl,?_⟩;have n0_:=Ha (Kd.R_lower qe (below_size (by repeat(first|(with_reducible first|exact HB.out|apply He|apply Hb|apply Hd)|exact HB.out))));have qc:=Ha (Hl (by repeat(first|(with_reducible first|exact HB.out|apply He|apply Hb|apply Hd)|exact HB.out)) hb);clear HB;have qa:=n0_;have HB:=qc;clear n0_ qc;(try clear hb);(try clear hb2);(try clear hk);(try clear hi);(try clear qe);obtain⟨Ao35,co35,eo35⟩:=Kd.R_slice qa.out;subst eo35)|((with_reducible refine Hm (f:=7) rfl ?_);refine goesL_ (some 14) rfl rfl Tryd.func7 (by kernel_rfl) rfl #[.slice Ao35 t179.length co35] rfl (by(try simp only [List.map_toArray,List.map_cons,List.map_nil]);first|done|rfl|(simp only [List.length_drop,List.length_take];rfl)) ?_;(with_reducible refine(spec_ShowTitles.calls k _ _ t179 t182 _ ?side1 ?side2 A6.out).mono ?_);(case side1=>repeat(first|exact(Hk qa.out).2.2|(with_reducible refine Hi ?_ _)|(with_reducible refine Hj ?_ _)|(with_reducible refine Hf ?_)));(case side2=>exact(Hk qa.out).2.1);rintro e w36 ⟨rfl,hb⟩;refine⟨_,rfl,?_⟩;have n0_:=Ha (Kd.R_below (by(with_reducible repeat(first|apply Hg|apply Hh|apply Hc));exact qa.out) hb);have qc:=Ha (Hl (by repeat(first|(with_reducible first|exact HB.out|apply He|apply Hb|apply Hd)|exact HB.out)) hb);clear qa;clear HB;have qa:=n0_;have HB:=qc;clear n0_ qc;(try clear hb);(try clear hb2);(try clear hk);(try clear hi))|((with_reducible refine Hm (f:=8) rfl ?_);refine goesL_ (some 16) rfl rfl Tryd.func8 (by kernel_rfl) rfl #[.slice A0 l0.length c0] rfl (by(try simp only [List.map_toArray,List.map_cons,List.map_nil]);first|done|rfl|(simp only [List.length_drop,List.length_take];rfl)) ?_;(with_reducible refine(laws_toTitleS.calls k _ _ l0 t183 _ ?side1 ?side2 A7.out).mono ?_);(case side1=>repeat(first|exact(Kd.C_below HR0.out HB.out)|(with_reducible refine Hi ?_ _)|(with_reducible refine Hj ?_ _)|(with_reducible refine Hf ?_)));(case side2=>exact HC0.out);rintro e w37 ⟨v184,rfl,qe,hb⟩;refine⟨_,rfl,?_⟩;have n0_:=Ha (Kd.R_elder' (by(with_reducible repeat(first|apply Hg|apply Hh|apply Hc));exact qa.out) (Kd.R_base qe) hb);have qc:=Ha (Kd.R_lower (Kd.R_new' qe (Kd.R_lt (by(with_reducible repeat(first|apply Hg|apply Hh|apply Hc));exact qa.out))) (below_size (by repeat(first|(with_reducible first|exact HB.out|apply He|apply Hb|apply Hd)|exact HB.out))));have qf:=Ha (Hl (by repeat(first|(with_reducible first|exact HB.out|apply He|apply Hb|apply Hd)|exact HB.out)) hb);clear qa;clear HB;have qa:=n0_;have qb:=qc;have HB:=qf;clear n0_ qc qf;(try clear hb);(try clear hb2);(try clear hk);(try clear hi);(try clear qe);obtain⟨Ao38,co38,eo38⟩:=Kd.R_slice qb.out;subst eo38)|((with_reducible refine Hm (f:=9) rfl ?_);refine goesL_ (some 18) rfl rfl Tryd.func9 (by kernel_rfl) rfl #[.slice Ao38 t183.length co38] rfl (by(try simp only [List.map_toArray,List.map_cons,List.map_nil]);first|done|rfl|(simp only [List.length_drop,List.length_take];rfl)) ?_;(with_reducible refine(impl_ShowTitles.calls k _ _ t183 t186 _ (by first|exact HGL.out|((repeat(with_reducible refine Glob.drewN ?_));exact HGL.out)|exact Glob.below HGL.out (by repeat(first|(with_reducible first|exact HB.out|apply He|apply Hb|apply Hd)|exact HB.out))) ?side1 ?side2 A8.out).mono ?_);(case side1=>repeat(first|exact(Hk qb.out).2.2|(with_reducible refine Hi ?_ _)|(with_reducible refine Hj ?_ _)|(with_reducible refine Hf ?_)));(case side2=>exact(Hk qb.out).2.1);rintro e w39 ⟨rfl,hb⟩;refine⟨_,rfl,?_⟩;have n0_:=Ha (Kd.R_below (by(with_reducible repeat(first|apply Hg|apply Hh|apply Hc));exact qa.out) hb);have qc:=Ha (Kd.R_below (by(with_reducible repeat(first|apply Hg|apply Hh|apply Hc));exact qb.out) hb);have qf:=Ha (Hl (by repeat(first|(with_reducible first|exact HB.out|apply He|apply Hb|apply Hd)|exact HB.out)) hb);clear qa;clear qb;clear HB;have qa:=n0_;have qb:=qc;have HB:=qf;clear n0_ qc qf;(try clear hb);(try clear hb2);(try clear hk);(try clear hi)))
   go_ret
   exact⟨by first|rfl|(simp [errW_none,errW_some] <;> rfl)|(simp [*,errW_none,errW_some] <;> rfl),by repeat(first|(with_reducible first|exact HB.out|apply He|apply Hb|apply Hd)|exact HB.out)⟩

end Go.Proofs.YtidogkjhjmcliaaDoor.HFnExactShowTitles
