-- Laid by myprint.py, a program of this repo, out of the kit's printer and this repo's own texts (wip/hand).
import Derived.Test.YtelcpfanjjfgdaaHFnPackedx0
import Derived.Test.YtelcpfanjjfgdaaHFnPackedx3
import Derived.Test.YtelcpfanjjfgdaaHFnPackedx4
import Derived.Test.YtelcpfanjjfgdaaHFnPackedx5
namespace Go.Proofs.Ytelcpfanjjfgdaa.HFnPacked
open Go.RowKit Go.Proofs.YtelcpfanjjfgdaaW.PrintWords Go.Proofs.YtelcpfanjjfgdaaW.PrintLast Go.Proofs.YtelcpfanjjfgdaaW.PrintMore
attribute [local go_sem] max2_int min2_int max_two min_two max_three min_three max_four min_four   -- for this text's walks alone
set_option linter.unusedVariables false
set_option linter.unusedSimpArgs false
theorem Ga : type_of% @Aside0.mk := @Aside0.mk
theorem Gb : type_of% @pw_below_drewN := @pw_below_drewN
theorem Gc : type_of% @below_drew1 := @below_drew1
theorem Gd : type_of% @below_alloc := @below_alloc
theorem Ge : type_of% @Kd.R_drew := @Kd.R_drew
theorem Gf : type_of% @blk_drew := @blk_drew
theorem Gg : type_of% @blk_cell := @blk_cell
theorem Gh : type_of% @Kd.R_alloc := @Kd.R_alloc
theorem Gi : type_of% @Kd.R_drewN := @Kd.R_drewN
theorem Gj : type_of% @below_set := @below_set
theorem Gk : type_of% @blk_alloc := @blk_alloc
theorem Gl : type_of% @blk_drewN := @blk_drewN
theorem Gm : type_of% @any_of := @any_of

/-! ### impl_Verify: function 43 -/
mutual
def impl_Verify.j0 : Nat → List (S71) → List ByteArray → List (List Int) → Bool → Option (List Int)
 | 0, _, _, _, _ => none
 | k + 1, x0, x1, x2, x21 => if x21 = true then (some ([] : List Int)) else (impl_Verify.l0 k x1 x2 (([] : List Int)) x0 (x0.length : Int) 0)
def impl_Verify.l0 : Nat → List ByteArray → List (List Int) → List Int → List (S71) → Int → Int → Option (List Int)
 | 0, _, _, _, _, _, _ => none
 | k + 1, x1, x2, x7, x23, x24, x25 => if x25 < x24 then (if 0 ≤ x25 then (if x25 < (x23.length : Int) then ((slices_Index_string_string.f k x1 ((rd_T71 x23 x25).f0)).bind fun qe => (if qe < 0 then (if x7.length < 17592186044416 then (impl_Verify.l0 k x1 x2 (x7 ++ [1]) x23 x24 (wrap64 (x25 + 1))) else (none)) else (if 0 ≤ qe then (if qe < (x2.length : Int) then (if ((rd_L5 x2 qe).length : Int) = ((rd_T71 x23 x25).f1) then ((impl_Digest.f k (rd_L5 x2 qe)).bind fun ya => (if ya = ((rd_T71 x23 x25).f2) then (if x7.length < 17592186044416 then (impl_Verify.l0 k x1 x2 (x7 ++ [0]) x23 x24 (wrap64 (x25 + 1))) else (none)) else (if x7.length < 17592186044416 then (impl_Verify.l0 k x1 x2 (x7 ++ [3]) x23 x24 (wrap64 (x25 + 1))) else (none)))) else (if x7.length < 17592186044416 then (impl_Verify.l0 k x1 x2 (x7 ++ [2]) x23 x24 (wrap64 (x25 + 1))) else (none))) else (none)) else (none)))) else (none)) else (none)) else (some x7)
end
def impl_Verify.f (k : Nat) (l0 : List (S71)) (l1 : List ByteArray) (l2 : List (List Int)) : Option (List Int) := (impl_PackOk.f k l0).bind fun t139 => (if t139 = true then (impl_Verify.j0 k l0 l1 l2 ((l1.length : Int) != (l2.length : Int))) else (impl_Verify.j0 k l0 l1 l2 true))
theorem impl_Verify.mono_l : ∀ k, (∀ y0 y1 y2 y3, LeO (impl_Verify.j0 k y0 y1 y2 y3) (impl_Verify.j0 (k + 1) y0 y1 y2 y3)) ∧ (∀ y0 y1 y2 y3 y4 y5, LeO (impl_Verify.l0 k y0 y1 y2 y3 y4 y5) (impl_Verify.l0 (k + 1) y0 y1 y2 y3 y4 y5))
 | 0 => ⟨fun _ _ _ _ r h => by simp [impl_Verify.j0] at h, fun _ _ _ _ _ _ r h => by simp [impl_Verify.l0] at h⟩
 | k + 1 => by
  obtain⟨ih0,ih1⟩:=impl_Verify.mono_l k
  refine⟨?_,?_⟩
  ·intro y0 y1 y2 y3
   unfold impl_Verify.j0
   repeat' first
   | (with_reducible exact ih0 _ _ _ _)
   | (with_reducible exact ih1 _ _ _ _ _ _)
   | (with_reducible exact impl_Digest.mono _ _)
   | (with_reducible exact impl_PackOk.mono _ _)
   | (with_reducible exact slices_Index_string_string.mono _ _ _)
   | (with_reducible exact LeO.refl _)
   | (with_reducible exact LeO.none _)
   | (with_reducible refine LeO.ite ?_ ?_)
   | (with_reducible refine LeO.bind ?_ (fun _ => ?_))
   | exact ih0 _ _ _ _
   | exact ih1 _ _ _ _ _ _
   | exact impl_Digest.mono _ _
   | exact impl_PackOk.mono _ _
   | exact slices_Index_string_string.mono _ _ _
   | exact LeO.none _
   | refine LeO.ite ?_ ?_
   | refine LeO.bind ?_ (fun _ => ?_)
  ·intro y0 y1 y2 y3 y4 y5
   unfold impl_Verify.l0
   repeat' first
   | (with_reducible exact ih0 _ _ _ _)
   | (with_reducible exact ih1 _ _ _ _ _ _)
   | (with_reducible exact impl_Digest.mono _ _)
   | (with_reducible exact impl_PackOk.mono _ _)
   | (with_reducible exact slices_Index_string_string.mono _ _ _)
   | (with_reducible exact LeO.refl _)
   | (with_reducible exact LeO.none _)
   | (with_reducible refine LeO.ite ?_ ?_)
   | (with_reducible refine LeO.bind ?_ (fun _ => ?_))
   | exact ih0 _ _ _ _
   | exact ih1 _ _ _ _ _ _
   | exact impl_Digest.mono _ _
   | exact impl_PackOk.mono _ _
   | exact slices_Index_string_string.mono _ _ _
   | exact LeO.none _
   | refine LeO.ite ?_ ?_
   | refine LeO.bind ?_ (fun _ => ?_)
theorem impl_Verify.mono : ∀ a0 a1 a2 k, LeO (impl_Verify.f k a0 a1 a2) (impl_Verify.f (k + 1) a0 a1 a2) := by
 intro a0 a1 a2 k
 obtain⟨ih0,ih1⟩:=impl_Verify.mono_l k
 unfold impl_Verify.f
 repeat' first
   | (with_reducible exact ih0 _ _ _ _)
   | (with_reducible exact ih1 _ _ _ _ _ _)
   | (with_reducible exact impl_Digest.mono _ _)
   | (with_reducible exact impl_PackOk.mono _ _)
   | (with_reducible exact slices_Index_string_string.mono _ _ _)
   | (with_reducible exact LeO.refl _)
   | (with_reducible exact LeO.none _)
   | (with_reducible refine LeO.ite ?_ ?_)
   | (with_reducible refine LeO.bind ?_ (fun _ => ?_))
   | exact ih0 _ _ _ _
   | exact ih1 _ _ _ _ _ _
   | exact impl_Digest.mono _ _
   | exact impl_PackOk.mono _ _
   | exact slices_Index_string_string.mono _ _ _
   | exact LeO.none _
   | refine LeO.ite ?_ ?_
   | refine LeO.bind ?_ (fun _ => ?_)
def impl_Verify.T11 : Bool × List (List Nat × List Nat) := (true, [([], []), ([], []), ([0, 1], [0, 1]), ([2], [2]), ([3], [3]), ([], []), ([5], [5]), ([4, 6], [4, 6]), ([7], [7])])
def impl_Verify.B11 : List Nat := [0, 0, 3, 7, 15, 0, 32, 127, 255]
theorem impl_Verify.tab11 : rtab .any (opsOf Try.f43 11) = impl_Verify.T11 := by kernel_rfl
theorem impl_Verify.bits11 : waitsOk impl_Verify.T11.2 impl_Verify.B11 = true := by kernel_rfl
def impl_Verify.T13 : Bool × List (List Nat × List Nat) := (true, [([], []), ([], []), ([0, 1], [0, 1]), ([2], [2]), ([3], [3]), ([], []), ([5], [5]), ([4, 6], [4, 6]), ([7, 4], [7])])
def impl_Verify.B13 : List Nat := [0, 0, 3, 7, 15, 0, 32, 127, 255]
theorem impl_Verify.tab13 : rtab .any (opsOf Try.f43 13) = impl_Verify.T13 := by kernel_rfl
theorem impl_Verify.bits13 : waitsOk impl_Verify.T13.2 impl_Verify.B13 = true := by kernel_rfl
set_option maxHeartbeats 8000000 in
set_option maxRecDepth 100000 in
theorem impl_Verify.calls (k : Nat) (A0 : Option Addr) (c0 : Nat) (l0 : List (S71)) (A1 : Option Addr) (c1 : Nat) (l1 : List ByteArray) (A2 : Option Addr) (c2 : Nat) (l2 : List (List Int)) (r : List Int) (w : World) (hr0 : Kd.C k71 w A0 l0.length l0) (hc0 : l0.length ≤ c0) (hr1 : Kd.C Kd.string w A1 l1.length l1) (hc1 : l1.length ≤ c1) (hr2 : Kd.C (Kd.slice 5 (Kd.int .u8)) w A2 l2.length l2) (hc2 : l2.length ≤ c2) (h : impl_Verify.f k l0 l1 l2 = some r) :
  Calls Try.prog 43 #[.slice A0 l0.length c0,.slice A1 l1.length c1,.slice A2 l2.length c2] w fun e w'=>∃ v0_:Value,e=.returned (v0_)∧Kd.R (Kd.int .i64) 2 w' w.heap.size (fun _=>True) v0_ r∧Below w.heap.size w w':=by
 have hu71:=Try.underlying71
 have HR0:=Ga hr0
 have HC0:=Ga hc0
 clear hr0 hc0
 have HR1:=Ga hr1
 have HC1:=Ga hc1
 clear hr1 hc1
 have HR2:=Ga hr2
 have HC2:=Ga hc2
 clear hr2 hc2
 have HB:=Ga (Below.refl w.heap.size w)
 have H:((impl_PackOk.f k l0).bind fun t139=>(if t139=true then (impl_Verify.j0 k l0 l1 l2 ((l1.length:Int) != (l2.length:Int))) else (impl_Verify.j0 k l0 l1 l2 true)))=some r:=h
 clear h
 have HC4:=Ga H
 clear H
 go_enter Try.func43,Try.ntmps43
 go_upto_region 1 with (fail)
 go_cut [21] (fun v21 wc=>∃ (kq:Nat) (x21_3:Bool),v21=.bool x21_3∧Aside0 (impl_Verify.j0 kq l0 l1 l2 x21_3=some r)∧Aside0 (kq≤k)∧Aside0 (Below w.heap.size w wc))
 case first=>
  have H:=HC4.out
  clear HC4
  replace H:=Option.bind_eq_some_iff.mp H
  obtain⟨t139,A50,H⟩:=H
  replace H:(if t139=true then (impl_Verify.j0 k l0 l1 l2 ((l1.length:Int) != (l2.length:Int))) else (impl_Verify.j0 k l0 l1 l2 true))=some r:=H
  have A5:=Ga A50
  clear A50
  by_cases c6:t139=true
  ·subst c6
   have H1:(impl_Verify.j0 k l0 l1 l2 ((l1.length:Int) != (l2.length:Int)))=some r:=by rw [if_pos rfl] at H;exact H
   clear H
   have H:=H1
   clear H1
   have H':=Ga H
   clear H
   go_wp2_with (first|((with_reducible refine gate_callee (f:=27) rfl ?_);refine goesL_ (some 13) rfl rfl Try.func27 (by kernel_rfl) rfl #[.slice A0 l0.length c0] rfl (by(try simp only [List.map_toArray,List.map_cons,List.map_nil]);first|done|rfl|(simp only [List.length_drop,List.length_take];rfl)) ?_;(with_reducible refine(impl_PackOk.calls k _ _ l0 true _ ?side1 ?side2 A5.out).mono ?_);(case side1=>repeat(first|exact(Kd.C_below HR0.out HB.out)|(with_reducible refine Kd.C_alloc ?_ _)|(with_reducible refine Kd.C_drewN ?_ _)|(with_reducible refine Kd.C_drew ?_)));(case side2=>exact HC0.out);rintro e w7 ⟨rfl,hb⟩;refine⟨_,rfl,?_⟩;have qk:=Ga (below_step (by repeat(first|(with_reducible first|exact HB.out|apply Gd|apply Gb|apply Gc)|exact HB.out)) hb);clear HB;have HB:=qk;clear qk;(try clear hb);(try clear hb2);(try clear hk);(try clear hi)))
   go_meet
   case rel=>exact⟨_,(((l1.length:Int) != (l2.length:Int))),(by first|rfl|(simp;done)|(simp [*];done)),H',⟨by first|omega|exact Nat.le_refl _⟩,⟨by repeat(first|(with_reducible first|exact HB.out|apply Gd|apply Gb|apply Gc)|exact HB.out)⟩⟩
  ·replace c6:=Bool.eq_false_iff.mpr c6
   subst c6
   have H1:(impl_Verify.j0 k l0 l1 l2 true)=some r:=by rw [if_neg (show ¬ (false=true) by decide)] at H;exact H
   clear H
   have H:=H1
   clear H1
   have H':=Ga H
   clear H
   go_wp2_with (first|((with_reducible refine gate_callee (f:=27) rfl ?_);refine goesL_ (some 13) rfl rfl Try.func27 (by kernel_rfl) rfl #[.slice A0 l0.length c0] rfl (by(try simp only [List.map_toArray,List.map_cons,List.map_nil]);first|done|rfl|(simp only [List.length_drop,List.length_take];rfl)) ?_;(with_reducible refine(impl_PackOk.calls k _ _ l0 false _ ?side1 ?side2 A5.out).mono ?_);(case side1=>repeat(first|exact(Kd.C_below HR0.out HB.out)|(with_reducible refine Kd.C_alloc ?_ _)|(with_reducible refine Kd.C_drewN ?_ _)|(with_reducible refine Kd.C_drew ?_)));(case side2=>exact HC0.out);rintro e w8 ⟨rfl,hb⟩;refine⟨_,rfl,?_⟩;have qk:=Ga (below_step (by repeat(first|(with_reducible first|exact HB.out|apply Gd|apply Gb|apply Gc)|exact HB.out)) hb);clear HB;have HB:=qk;clear qk;(try clear hb);(try clear hb2);(try clear hk);(try clear hi)))
   go_meet
   case rel=>exact⟨_,(true),(by first|rfl|(simp;done)|(simp [*];done)),H',⟨by first|omega|exact Nat.le_refl _⟩,⟨by repeat(first|(with_reducible first|exact HB.out|apply Gd|apply Gb|apply Gc)|exact HB.out)⟩⟩
 case rest=>
  clear HC4
  try clear c1
  try clear c2
  try clear p2
  try clear c4
  try clear c6
  obtain⟨kq,x21_3,rfl,HA,HJ3,HB⟩:=hcut
  cases kq with
  | zero => exact absurd HA.out (by simp [impl_Verify.j0])
  | succ kj3 =>
   have H:=HA.out
   clear HA
   simp only [impl_Verify.j0] at H
   by_cases c9:x21_3=true
   ·subst c9
    have H1:(some ([]:List Int))=some r:=by rw [if_pos rfl] at H;exact H
    clear H
    have H:=H1
    clear H1
    obtain rfl:=Option.some.inj H
    go_wp2
    go_ret
    exact⟨_,by first|rfl|(simp [errW_none,errW_some] <;> rfl)|(simp [*,errW_none,errW_some] <;> rfl),by first|exact Kd.R_nil _ _ _ _ _|exact Kd.N_nil _ _ _ _ _|exact Kd.V_nil _ _ _ _ _|exact Kd.Q_nil _ _ _ _ _|exact Kd.S_nil _ _ _ _ _,by repeat(first|(with_reducible first|exact HB.out|apply Gd|apply Gb|apply Gc)|exact HB.out)⟩
   ·replace c9:=Bool.eq_false_iff.mpr c9
    subst c9
    have H1:(impl_Verify.l0 kj3 l1 l2 (([]:List Int)) l0 (l0.length:Int) 0)=some r:=by rw [if_neg (show ¬ (false=true) by decide)] at H;exact H
    clear H
    have H:=H1
    clear H1
    obtain⟨y140,hy140⟩:∃ y_:List Int,y_=(([]:List Int)):=⟨_,rfl⟩
    replace H:(impl_Verify.l0 kj3 l1 l2 y140 l0 (l0.length:Int) 0)=some r:=by first|(rw [hy140];with_reducible exact H)|(have H2_:=(Option.bind_some _ _).symm.trans H;rw [hy140];with_reducible exact H2_)|(have H2_:=(Option.bind_some _ _).symm.trans H;with_reducible exact H2_)|with_reducible exact H|(rw [hy140];exact H)|exact H
    have Ny140:=Ga hy140
    clear hy140
    have H':=Ga H
    clear H
    go_wp2_with (first|((with_reducible refine gate_dst (N:=22) rfl ?_);(try(refine gate_guard (by rfl) ?_;dsimp only));refine Kd.R_lit (Kd.int .i64) _ 2 ?hg (N:=22) ?hd (xs:=([]:List Int)) (inner:=[]) (ok:=fun _=>True) (okp:=fun _=>True) ?hr ?hp (fun _ hk=>hk) trivial (Below.refl _ _) (Nat.le_refl _) (by simp) ?_;(case hd=>rfl);(case hg=>rfl);(case hr=>first|(go_simp;done)|(go_simp;rfl));(case hp=>exact(Reps.none _ _));intro v141 w10 ho11 hb hg_ hnew_;clear hg_ hnew_;(first|rw [← Ny140.out] at ho11|(simp only [Int.reduceToNat] at ho11;rw [← Ny140.out] at ho11));have qk:=Ga (Kd.R_lower ho11 (below_size (by repeat(first|(with_reducible first|exact HB.out|apply Gd|apply Gb|apply Gc)|exact HB.out))));have ql:=Ga (below_step (by repeat(first|(with_reducible first|exact HB.out|apply Gd|apply Gb|apply Gc)|exact HB.out)) hb);clear HB;have HO142:=qk;have HB:=ql;clear qk ql;clear hb ho11))
    go_loopg [7,25] kj3 (fun kq v7 v25 w'=>∃ (qm:List Int) (qa:Int),v25=.int .i64 qa∧Aside0 (impl_Verify.l0 kq l1 l2 qm l0 (l0.length:Int) qa=some r)∧Aside0 (kq≤kj3)∧Aside0 (Kd.R (Kd.int .i64) 2 w' w.heap.size (fun _=>True) v7 qm)∧Aside0 (Below w.heap.size w w'))
    case atStart=>exact⟨(y140),(0),(by first|rfl|(simp;done)|(simp [*];done)),H',⟨Nat.le_refl _⟩,⟨by(with_reducible repeat(first|apply Gh|apply Gi|apply Ge));exact HO142.out⟩,⟨by repeat(first|(with_reducible first|exact HB.out|apply Gd|apply Gb|apply Gc)|exact HB.out)⟩⟩
    case round=>
     clear H'
     try clear c1
     try clear c2
     try clear p2
     try clear c4
     try clear c6
     try clear c9
     try clear p2
     obtain⟨qm,qa,rfl,HA,HK2,qd,HB⟩:=hrel
     cases gk with
     | zero => exact absurd HA.out (by simp [impl_Verify.l0])
     | succ k2 =>
      have H:=HA.out
      clear HA
      simp only [impl_Verify.l0] at H
      by_cases c12:qa < (l0.length:Int)
      ·rw [if_pos c12] at H
       have c12b0:decide (qa < (l0.length:Int))=true:=decide_eq_true c12
       clear c12
       by_cases c13:0≤qa
       ·rw [if_pos c13] at H
        have c13b0:decide (0≤qa)=true:=decide_eq_true c13
        clear c13
        by_cases c14:qa < (l0.length:Int)
        ·rw [if_pos c14] at H
         have c14b0:decide (qa < (l0.length:Int))=true:=decide_eq_true c14
         clear c14
         replace H:=Option.bind_eq_some_iff.mp H
         obtain⟨qe,A150,H⟩:=H
         replace H:(if qe < 0 then (if qm.length < 17592186044416 then (impl_Verify.l0 k2 l1 l2 (qm ++ [1]) l0 (l0.length:Int) (wrap64 (qa+1))) else (none)) else (if 0≤qe then (if qe < (l2.length:Int) then (if ((rd_L5 l2 qe).length:Int)=((rd_T71 l0 qa).f1) then ((impl_Digest.f k2 (rd_L5 l2 qe)).bind fun ya=>(if ya=((rd_T71 l0 qa).f2) then (if qm.length < 17592186044416 then (impl_Verify.l0 k2 l1 l2 (qm ++ [0]) l0 (l0.length:Int) (wrap64 (qa+1))) else (none)) else (if qm.length < 17592186044416 then (impl_Verify.l0 k2 l1 l2 (qm ++ [3]) l0 (l0.length:Int) (wrap64 (qa+1))) else (none)))) else (if qm.length < 17592186044416 then (impl_Verify.l0 k2 l1 l2 (qm ++ [2]) l0 (l0.length:Int) (wrap64 (qa+1))) else (none))) else (none)) else (none)))=some r:=H
         have A15:=Ga A150
         clear A150
         by_cases c16:qe < 0
         ·rw [if_pos c16] at H
          have c16b0:decide (qe < 0)=true:=decide_eq_true c16
          clear c16
          by_cases c17:qm.length < 17592186044416
          ·rw [if_pos c17] at H
           have LMc17:=Ga c17
           clear c17
           obtain⟨y146,hy146⟩:∃ y_:List Int,y_=(qm ++ [1]):=⟨_,rfl⟩
           replace H:(impl_Verify.l0 k2 l1 l2 y146 l0 (l0.length:Int) (wrap64 (qa+1)))=some r:=by first|(rw [hy146];with_reducible exact H)|(have H2_:=(Option.bind_some _ _).symm.trans H;rw [hy146];with_reducible exact H2_)|(have H2_:=(Option.bind_some _ _).symm.trans H;with_reducible exact H2_)|with_reducible exact H|(rw [hy146];exact H)|exact H
           have Ny146:=Ga hy146
           clear hy146
           have H':=Ga H
           clear H
           have qt:0≤(qa:Int):=of_decide_eq_true (by first|(with_reducible assumption)|assumption)
           have qu:qa < (l0.length:Int):=of_decide_eq_true (by first|(with_reducible assumption)|assumption)
           obtain⟨ad143,e143,qh,qi,qj⟩:=at_T71 HR0.out qa qt qu
           cases e143
           replace qh:=(HB.out.cell (World.block_lt_of_cell? w _ qh)).trans qh
           replace qi:=(HB.out.cell (World.block_lt_of_cell? w _ qi)).trans qi
           replace qj:=(HB.out.cell (World.block_lt_of_cell? w _ qj)).trans qj
           replace qt:=eq_true qt
           replace qu:=eq_true qu
           go_wp2_with (first|((with_reducible refine gate_dst (N:=9) rfl ?_);(try(refine gate_guard (by rfl) ?_;dsimp only));refine box_event ?hg (N:=9) ?hd (cs:=#[.string (⟨#[]⟩:ByteArray),.int .i64 0,.int .i64 0]) (t:=71) ?hr ?_;(case hd=>rfl);(case hg=>rfl);(case hr=>first|(go_simp;done)|(go_simp;rfl));intro qc hg w18 hbox hb;have qk:=Ga (Kd.R_below (by(with_reducible repeat(first|apply Gh|apply Gi|apply Ge));exact qd.out) hb);have ql:=Ga (below_step (by repeat(first|(with_reducible first|exact HB.out|apply Gd|apply Gb|apply Gc)|exact HB.out)) hb);have qn:=Ga (hbox);have n3_:=Ga ((by rw [hg];exact(below_size (by repeat(first|(with_reducible first|exact HB.out|apply Gd|apply Gb|apply Gc)|exact HB.out))):w.heap.size≤qc));have n4_:=Ga ((by rw [hg];exact(below_size (by repeat(first|(with_reducible first|exact HB.out|apply Gd|apply Gb|apply Gc)|exact HB.out))):w.heap.size≤qc));clear qd;clear HB;have qd:=qk;have HB:=ql;have qb:=qn;have GW144:=n3_;have qg:=n4_;clear qk ql qn n3_ n4_;clear hb hbox hg;have hcz19_0:w18.cell? ⟨qc,0,none⟩=some (.string (⟨#[]⟩:ByteArray)):=(Gg qb.out 0).trans rfl;have hcz19_1:w18.cell? ⟨qc,1,none⟩=some (.int .i64 0):=(Gg qb.out 1).trans rfl;have hcz19_2:w18.cell? ⟨qc,2,none⟩=some (.int .i64 0):=(Gg qb.out 2).trans rfl;have hfz19_0:=blk_frozen qb.out 0;have hfz19_1:=blk_frozen qb.out 1;have hfz19_2:=blk_frozen qb.out 2)|((with_reducible refine gate_callee (f:=77) rfl ?_);refine goesL_ (some 32) rfl rfl Try.func77 (by kernel_rfl) rfl #[.slice A1 l1.length c1,.string ((rd_T71 l0 qa).f0)] rfl (by(try simp only [List.map_toArray,List.map_cons,List.map_nil]);first|done|rfl|(simp only [List.length_drop,List.length_take];rfl)) ?_;(with_reducible refine(slices_Index_string_string.calls k2 _ _ l1 ((rd_T71 l0 qa).f0) qe _ ?side1 ?side2 A15.out).mono ?_);(case side1=>exact Kd.C_below HR1.out (by repeat(first|(with_reducible first|exact HB.out|apply Gd|apply Gb|apply Gc|refine Gj ?_ qg.out)|exact HB.out)));(case side2=>exact HC1.out);rintro e w' ⟨rfl,⟨nd,rfl⟩⟩;refine⟨_,rfl,?_⟩)|((with_reducible refine gate_builtin (b:=.append) (xs:=#[.tmp 54,.tmp 56]) rfl ?_);(try(refine gate_guard (by rfl) ?_;dsimp only));at_builtin;refine Kd.R_append (Kd.int .i64) (w0:=w) w.heap.size rfl (.tmp 54) (.tmp 56) 57 2 (.int .i64 0) 8 rfl Try.underlying57 info2 rfl (by decide) (by omega) u7 qm 1 [.int .i64 1] (fun _=>True) (fun _=>False) rfl (by first|(go_simp;done)|(go_simp;rfl)) ?aP (fun _ hk=>hk.elim) ?aF ?aO ?aB ?aS ?aL ?_;(case aP=>exact rfl);(case aB=>exact(by repeat(first|(with_reducible first|exact HB.out|apply Gd|apply Gb|apply Gc|refine Gj ?_ qg.out)|exact HB.out)));(case aF=>exact(fun _ _=>trivial));(case aO=>exact(by(with_reducible repeat(first|apply Gh|apply Gi|apply Ge));exact Kd.R_mono (Kd.R_far (p:=⟨qc,2,none⟩) (Kd.R_far (p:=⟨qc,1,none⟩) (Kd.R_far (p:=⟨qc,0,none⟩) (Kd.R_types qd.out qb.out (by decide)) (fun _ hk=>hk.2) (.string ((rd_T71 l0 qa).f0))) (fun _ hk=>hk.2) (.int .i64 ((rd_T71 l0 qa).f1))) (fun _ hk=>hk.2) (.int .i64 ((rd_T71 l0 qa).f2))) (fun _ hk=>trivial)));(case aS=>exact(below_size (by repeat(first|(with_reducible first|exact HB.out|apply Gd|apply Gb|apply Gc|refine Gj ?_ qg.out)|exact HB.out))));(case aL=>have:=LMc17.out;omega);intro v147 w20 ho hb hg hat;rw [← Ny146.out] at ho;have qk:=Ga (blk_grown (g:=qc) (o:=.cells #[.string ((rd_T71 l0 qa).f0),.int .i64 ((rd_T71 l0 qa).f1),.int .i64 ((rd_T71 l0 qa).f2)] 71 (0,0)) (by(with_reducible repeat(first|refine Gl ?_ _|refine Gf ?_|refine Gk ?_ _));refine blk_put (cs:=#[.string ((rd_T71 l0 qa).f0),.int .i64 ((rd_T71 l0 qa).f1),.int .i64 0]) ?_ 2 _ rfl;(with_reducible repeat(first|refine Gl ?_ _|refine Gf ?_|refine Gk ?_ _));refine blk_put (cs:=#[.string ((rd_T71 l0 qa).f0),.int .i64 0,.int .i64 0]) ?_ 1 _ rfl;(with_reducible repeat(first|refine Gl ?_ _|refine Gf ?_|refine Gk ?_ _));refine blk_put (cs:=#[.string (⟨#[]⟩:ByteArray),.int .i64 0,.int .i64 0]) ?_ 0 _ rfl;(with_reducible repeat(first|refine Gl ?_ _|refine Gf ?_|refine Gk ?_ _));exact qb.out) hg (Kd.R_ne qd.out qb.out (by decide)));have ql:=Ga (hb);have qn:=Ga (ho);clear qb;clear HB;clear qd;have qb:=qk;have HB:=ql;have HO148:=qn;clear qk ql qn;clear ho hb hg hat))
           go_roundg k2
           case measure=>have:=HJ3.out;have:=HK2.out;omega
           case rel=>exact⟨(y146),(wrap64 (qa+1)),(by first|rfl|(simp;done)|(simp [*];done)),H',⟨by have:=HJ3.out;have:=HK2.out;omega⟩,⟨by(with_reducible repeat(first|apply Gh|apply Gi|apply Ge));exact HO148.out⟩,⟨by repeat(first|(with_reducible first|exact HB.out|apply Gd|apply Gb|apply Gc|refine Gj ?_ qg.out)|exact HB.out)⟩⟩
          ·rw [if_neg c17] at H
           exact absurd H (by simp)
         ·rw [if_neg c16] at H
          have c16b0:decide (qe < 0)=false:=decide_eq_false c16
          clear c16
          by_cases c21:0≤qe
          ·rw [if_pos c21] at H
           have c21b0:decide (0≤qe)=true:=decide_eq_true c21
           clear c21
           by_cases c22:qe < (l2.length:Int)
           ·rw [if_pos c22] at H
            have c22b0:decide (qe < (l2.length:Int))=true:=decide_eq_true c22
            clear c22
            by_cases c23:((rd_L5 l2 qe).length:Int)=((rd_T71 l0 qa).f1)
            ·rw [if_pos c23] at H
             have c23b0:(((rd_L5 l2 qe).length:Int) == ((rd_T71 l0 qa).f1))=true:=beq_iff_eq.mpr c23
             have c23b1:(((rd_L5 l2 qe).length:Int) != ((rd_T71 l0 qa).f1))=false:=bne_eq_false_iff_eq.mpr c23
             clear c23
             replace H:=Option.bind_eq_some_iff.mp H
             obtain⟨ya,A240,H⟩:=H
             replace H:(if ya=((rd_T71 l0 qa).f2) then (if qm.length < 17592186044416 then (impl_Verify.l0 k2 l1 l2 (qm ++ [0]) l0 (l0.length:Int) (wrap64 (qa+1))) else (none)) else (if qm.length < 17592186044416 then (impl_Verify.l0 k2 l1 l2 (qm ++ [3]) l0 (l0.length:Int) (wrap64 (qa+1))) else (none)))=some r:=H
             have A24:=Ga A240
             clear A240
             by_cases c25:ya=((rd_T71 l0 qa).f2)
             ·rw [if_pos c25] at H
              have c25b0:(ya == ((rd_T71 l0 qa).f2))=true:=beq_iff_eq.mpr c25
              have c25b1:(ya != ((rd_T71 l0 qa).f2))=false:=bne_eq_false_iff_eq.mpr c25
              clear c25
              by_cases c26:qm.length < 17592186044416
              ·rw [if_pos c26] at H
               have LMc26:=Ga c26
               clear c26
               obtain⟨y152,hy152⟩:∃ y_:List Int,y_=(qm ++ [0]):=⟨_,rfl⟩
               replace H:(impl_Verify.l0 k2 l1 l2 y152 l0 (l0.length:Int) (wrap64 (qa+1)))=some r:=by first|(rw [hy152];with_reducible exact H)|(have H2_:=(Option.bind_some _ _).symm.trans H;rw [hy152];with_reducible exact H2_)|(have H2_:=(Option.bind_some _ _).symm.trans H;with_reducible exact H2_)|with_reducible exact H|(rw [hy152];exact H)|exact H
               have Ny152:=Ga hy152
               clear hy152
               have H':=Ga H
               clear H
               have qt:0≤(qa:Int):=of_decide_eq_true (by first|(with_reducible assumption)|assumption)
               have qu:qa < (l0.length:Int):=of_decide_eq_true (by first|(with_reducible assumption)|assumption)
               obtain⟨ad143,e143,qh,qi,qj⟩:=at_T71 HR0.out qa qt qu
               cases e143
               replace qh:=(HB.out.cell (World.block_lt_of_cell? w _ qh)).trans qh
               replace qi:=(HB.out.cell (World.block_lt_of_cell? w _ qi)).trans qi
               replace qj:=(HB.out.cell (World.block_lt_of_cell? w _ qj)).trans qj
               replace qt:=eq_true qt
               replace qu:=eq_true qu
               try go_wp2_with (first|((with_reducible refine gate_dst (N:=9) rfl ?_);(try(refine gate_guard (by rfl) ?_;dsimp only));refine box_event ?hg (N:=9) ?hd (cs:=#[.string (⟨#[]⟩:ByteArray),.int .i64 0,.int .i64 0]) (t:=71) ?hr ?_;(case hd=>rfl);(case hg=>rfl);(case hr=>first|(go_simp;done)|(go_simp;rfl));intro qc hg w27 hbox hb;have qk:=Ga (Kd.R_below (by(with_reducible repeat(first|apply Gh|apply Gi|apply Ge));exact qd.out) hb);have ql:=Ga (below_step (by repeat(first|(with_reducible first|exact HB.out|apply Gd|apply Gb|apply Gc)|exact HB.out)) hb);have qn:=Ga (hbox);have n3_:=Ga ((by rw [hg];exact(below_size (by repeat(first|(with_reducible first|exact HB.out|apply Gd|apply Gb|apply Gc)|exact HB.out))):w.heap.size≤qc));have n4_:=Ga ((by rw [hg];exact(below_size (by repeat(first|(with_reducible first|exact HB.out|apply Gd|apply Gb|apply Gc)|exact HB.out))):w.heap.size≤qc));clear qd;clear HB;have qd:=qk;have HB:=ql;have qb:=qn;have GW144:=n3_;have qg:=n4_;clear qk ql qn n3_ n4_;clear hb hbox hg;have hcz28_0:w27.cell? ⟨qc,0,none⟩=some (.string (⟨#[]⟩:ByteArray)):=(Gg qb.out 0).trans rfl;have hcz28_1:w27.cell? ⟨qc,1,none⟩=some (.int .i64 0):=(Gg qb.out 1).trans rfl;have hcz28_2:w27.cell? ⟨qc,2,none⟩=some (.int .i64 0):=(Gg qb.out 2).trans rfl;have hfz28_0:=blk_frozen qb.out 0;have hfz28_1:=blk_frozen qb.out 1;have hfz28_2:=blk_frozen qb.out 2)|((with_reducible refine gate_callee (f:=77) rfl ?_);refine goesL_ (some 32) rfl rfl Try.func77 (by kernel_rfl) rfl #[.slice A1 l1.length c1,.string ((rd_T71 l0 qa).f0)] rfl (by(try simp only [List.map_toArray,List.map_cons,List.map_nil]);first|done|rfl|(simp only [List.length_drop,List.length_take];rfl)) ?_;(with_reducible refine(slices_Index_string_string.calls k2 _ _ l1 ((rd_T71 l0 qa).f0) qe _ ?side1 ?side2 A15.out).mono ?_);(case side1=>exact Kd.C_below HR1.out (by repeat(first|(with_reducible first|exact HB.out|apply Gd|apply Gb|apply Gc|refine Gj ?_ qg.out)|exact HB.out)));(case side2=>exact HC1.out);rintro e w' ⟨rfl,⟨nd,rfl⟩⟩;refine⟨_,rfl,?_⟩))
               have qk:Aside0 (Kd.R (Kd.int .i64) 2 (((w27.setCell ⟨qc,0,none⟩ (.string ((rd_T71 l0 qa).f0))).setCell ⟨qc,1,none⟩ (.int .i64 ((rd_T71 l0 qa).f1))).setCell ⟨qc,2,none⟩ (.int .i64 ((rd_T71 l0 qa).f2))) w.heap.size (fun _=>True) u7 qm):=⟨by(with_reducible repeat(first|apply Gh|apply Gi|apply Ge));exact Kd.R_mono (Kd.R_far (p:=⟨qc,2,none⟩) (Kd.R_far (p:=⟨qc,1,none⟩) (Kd.R_far (p:=⟨qc,0,none⟩) (Kd.R_types qd.out qb.out (by decide)) (fun _ hk=>hk.2) (.string ((rd_T71 l0 qa).f0))) (fun _ hk=>hk.2) (.int .i64 ((rd_T71 l0 qa).f1))) (fun _ hk=>hk.2) (.int .i64 ((rd_T71 l0 qa).f2))) (fun _ hk=>trivial)⟩
               have ql:Aside0 ((((w27.setCell ⟨qc,0,none⟩ (.string ((rd_T71 l0 qa).f0))).setCell ⟨qc,1,none⟩ (.int .i64 ((rd_T71 l0 qa).f1))).setCell ⟨qc,2,none⟩ (.int .i64 ((rd_T71 l0 qa).f2))).heap[qc]? = some (.cells #[.string ((rd_T71 l0 qa).f0),.int .i64 ((rd_T71 l0 qa).f1),.int .i64 ((rd_T71 l0 qa).f2)] 71 (0,0))):=⟨by(with_reducible repeat(first|refine Gl ?_ _|refine Gf ?_|refine Gk ?_ _));refine blk_put (cs:=#[.string ((rd_T71 l0 qa).f0),.int .i64 ((rd_T71 l0 qa).f1),.int .i64 0]) ?_ 2 _ rfl;(with_reducible repeat(first|refine Gl ?_ _|refine Gf ?_|refine Gk ?_ _));refine blk_put (cs:=#[.string ((rd_T71 l0 qa).f0),.int .i64 0,.int .i64 0]) ?_ 1 _ rfl;(with_reducible repeat(first|refine Gl ?_ _|refine Gf ?_|refine Gk ?_ _));refine blk_put (cs:=#[.string (⟨#[]⟩:ByteArray),.int .i64 0,.int .i64 0]) ?_ 0 _ rfl;(with_reducible repeat(first|refine Gl ?_ _|refine Gf ?_|refine Gk ?_ _));exact qb.out⟩
               have qn:Aside0 (Below w.heap.size w (((w27.setCell ⟨qc,0,none⟩ (.string ((rd_T71 l0 qa).f0))).setCell ⟨qc,1,none⟩ (.int .i64 ((rd_T71 l0 qa).f1))).setCell ⟨qc,2,none⟩ (.int .i64 ((rd_T71 l0 qa).f2)))):=⟨by repeat(first|(with_reducible first|exact HB.out|apply Gd|apply Gb|apply Gc|refine Gj ?_ qg.out)|exact HB.out)⟩
               (try clear qd)
               (try clear qb)
               (try clear HB)
               generalize (((w27.setCell ⟨qc,0,none⟩ (.string ((rd_T71 l0 qa).f0))).setCell ⟨qc,1,none⟩ (.int .i64 ((rd_T71 l0 qa).f1))).setCell ⟨qc,2,none⟩ (.int .i64 ((rd_T71 l0 qa).f2)))=w29 at qk ql qn ⊢
               have qd:=qk
               have qb:=ql
               have HB:=qn
               clear qk ql qn
               (try(rw [drewN_self w29];generalize hq_:World.drewN w29 _=w29;have qk:Aside0 (Kd.R (Kd.int .i64) 2 w29 w.heap.size (fun _=>True) u7 qm):=⟨by rw [← hq_];exact(by(with_reducible repeat(first|apply Gh|apply Gi|apply Ge));exact qd.out)⟩;have ql:Aside0 (w29.heap[qc]? = some (.cells #[.string ((rd_T71 l0 qa).f0),.int .i64 ((rd_T71 l0 qa).f1),.int .i64 ((rd_T71 l0 qa).f2)] 71 (0,0))):=⟨by rw [← hq_];exact(by(with_reducible repeat(first|refine Gl ?_ _|refine Gf ?_|refine Gk ?_ _));exact qb.out)⟩;have qn:Aside0 (Below w.heap.size w w29):=⟨by rw [← hq_];exact(by repeat(first|(with_reducible first|exact HB.out|apply Gd|apply Gb|apply Gc|refine Gj ?_ qg.out)|exact HB.out))⟩;clear qd qb HB hq_;have qd:=qk;have qb:=ql;have HB:=qn;clear qk ql qn))
               have qk:=Ga (Ge qd.out)
               have ql:=Ga (Gf qb.out)
               have qn:=Ga (Gc HB.out)
               clear qd
               clear qb
               clear HB
               have qd:=qk
               have qb:=ql
               have HB:=qn
               clear qk ql qn
               have yf:0≤(qe:Int):=of_decide_eq_true (by first|(with_reducible assumption)|assumption)
               have yg:qe < (l2.length:Int):=of_decide_eq_true (by first|(with_reducible assumption)|assumption)
               obtain⟨qx,yb,yd,e149,qf,qr,qq⟩:=at_L5 HR2.out qe yf yg
               have qs:=qf
               cases e149
               replace qf:=(HB.out.cell (World.block_lt_of_cell? w _ qf)).trans qf
               have qv:=Ga qq
               have HC149_0:=Ga qr
               clear qq qr
               replace yf:=eq_true yf
               replace yg:=eq_true yg
               refine start_ (n:=9) (S:=fun w'=>w'.cell? ⟨qc,0,none⟩=some (.string ((rd_T71 l0 qa).f0))∧w'.cell? ⟨qc,1,none⟩=some (.int .i64 ((rd_T71 l0 qa).f1))∧w'.cell? ⟨qc,2,none⟩=some (.int .i64 ((rd_T71 l0 qa).f2))∧w'.cell? (qx.add (qe).toNat)=some (.slice yb (rd_L5 l2 qe).length yd)) (ds:=[]) #[false,false,false,false,false,false,false,false,false] (by kernel_rfl) rfl rfl ⟨(Gg qb.out 0).trans rfl,(Gg qb.out 1).trans rfl,(Gg qb.out 2).trans rfl,((HB.out.cell (World.block_lt_of_cell? w _ qs)).trans qs)⟩ (fun hHeld=>?_);refine with_tabW impl_Verify.tab11 impl_Verify.bits11 (fun HT_ HW_=>?_)
               generalize w29.drew=w30 at qd qb HB qv qf hHeld ⊢
               refine pure_ (i:=0) (N:=some 37) (v:=?_) (a':=?_) #[true,false,false,false,false,false,false,false,false] rfl rfl (Gm HT_.out (by kernel_rfl)) (fun _ _ _ h=>h) (Or.inl ⟨by rfl,?_⟩) ?_ ?_
               rotate_left
               ·intro w'
                go_simp
                with_reducible rfl
               rotate_left
               ·simp only [Act.put,List.setIfInBounds_toArray,List.set_cons_zero,List.set_cons_succ,i64_w,i32_w]
                rfl
               refine pure_ (i:=1) (N:=some 38) (v:=?_) (a':=?_) #[true,true,false,false,false,false,false,false,false] rfl rfl (Gm HT_.out (by kernel_rfl)) (fun _ _ _ h=>h) (Or.inl ⟨by rfl,?_⟩) ?_ ?_
               rotate_left
               ·intro w'
                go_simp
                with_reducible rfl
               rotate_left
               ·simp only [Act.put,List.setIfInBounds_toArray,List.set_cons_zero,List.set_cons_succ,i64_w,i32_w]
                rfl
               refine pure_ (i:=2) (N:=some 39) (v:=?_) (a':=?_) #[true,true,true,false,false,false,false,false,false] rfl rfl (Gm HT_.out (by kernel_rfl)) (fun _ _ _ h=>h) (Or.inl ⟨by rfl,?_⟩) ?_ ?_
               rotate_left
               ·intro w'
                go_simp
                with_reducible rfl
               rotate_left
               ·simp only [Act.put,List.setIfInBounds_toArray,List.set_cons_zero,List.set_cons_succ,i64_w,i32_w]
                rfl
               refine pure_ (i:=5) (N:=some 42) (v:=?_) (a':=?_) #[true,true,true,false,false,true,false,false,false] rfl rfl (Gm HT_.out (by kernel_rfl)) (fun _ _ _ h=>h) (Or.inl ⟨by rfl,?_⟩) ?_ ?_
               rotate_left
               ·intro w'
                go_simp
                with_reducible rfl
               rotate_left
               ·simp only [Act.put,List.setIfInBounds_toArray,List.set_cons_zero,List.set_cons_succ,i64_w,i32_w]
                rfl
               refine take_ (i:=3) (N:=some 40) (v:=?_) (a':=?_) #[true,true,true,true,false,true,false,false,false] rfl rfl (take_ofW HT_.out HW_.out (by kernel_rfl)) (fun _ _ _ h=>h) (Or.inl ⟨by rfl,?_⟩) hHeld ?_ ?_
               rotate_left
               ·rintro w' ⟨s0,s1,s2,s3⟩
                go_simp
                with_reducible rfl
               rotate_left
               ·simp only [Act.put,List.setIfInBounds_toArray,List.set_cons_zero,List.set_cons_succ,i64_w,i32_w]
                rfl
               refine pure_ (i:=4) (N:=some 41) (v:=?_) (a':=?_) #[true,true,true,true,true,true,false,false,false] rfl rfl (Gm HT_.out (by kernel_rfl)) (fun _ _ _ h=>h) (Or.inl ⟨by rfl,?_⟩) ?_ ?_
               rotate_left
               ·intro w'
                go_simp
                with_reducible rfl
               rotate_left
               ·simp only [Act.put,List.setIfInBounds_toArray,List.set_cons_zero,List.set_cons_succ,i64_w,i32_w]
                rfl
               refine take_ (i:=6) (N:=some 43) (v:=?_) (a':=?_) #[true,true,true,true,true,true,true,false,false] rfl rfl (take_ofW HT_.out HW_.out (by kernel_rfl)) (fun _ _ _ h=>h) (Or.inl ⟨by rfl,?_⟩) hHeld ?_ ?_
               rotate_left
               ·rintro w' ⟨s0,s1,s2,s3⟩
                go_simp
                with_reducible rfl
               rotate_left
               ·simp only [Act.put,List.setIfInBounds_toArray,List.set_cons_zero,List.set_cons_succ,i64_w,i32_w]
                rfl
               refine pure_ (i:=7) (N:=some 44) (v:=?_) (a':=?_) #[true,true,true,true,true,true,true,true,false] rfl rfl (Gm HT_.out (by kernel_rfl)) (fun _ _ _ h=>h) (Or.inl ⟨by rfl,?_⟩) ?_ ?_
               rotate_left
               ·intro w'
                go_simp
                with_reducible rfl
               rotate_left
               ·simp only [Act.put,List.setIfInBounds_toArray,List.set_cons_zero,List.set_cons_succ,i64_w,i32_w]
                rfl
               refine pure_ (i:=8) (N:=some 36) (v:=?_) (a':=?_) #[true,true,true,true,true,true,true,true,true] rfl rfl (Gm HT_.out (by kernel_rfl)) (fun _ _ _ h=>h) (Or.inl ⟨by rfl,?_⟩) ?_ ?_
               rotate_left
               ·intro w'
                go_simp
                with_reducible rfl
               rotate_left
               ·simp only [Act.put,List.setIfInBounds_toArray,List.set_cons_zero,List.set_cons_succ,i64_w,i32_w]
                rfl
               refine done_ (done_of HT_.out (by kernel_rfl)) ?_
               try go_wp2
               have qk:=Ga (Ge qd.out)
               have ql:=Ga (Gf qb.out)
               have qn:=Ga (Gc HB.out)
               clear qd
               clear qb
               clear HB
               have qd:=qk
               have qb:=ql
               have HB:=qn
               clear qk ql qn
               have p150:0≤(qe:Int):=of_decide_eq_true (by first|(with_reducible assumption)|assumption)
               have q150:qe < (l2.length:Int):=of_decide_eq_true (by first|(with_reducible assumption)|assumption)
               obtain⟨ad150,yc,ye,e150,qo,qz,qy⟩:=at_L5 HR2.out qe p150 q150
               have qp:=qo
               obtain rfl:qx=ad150:=(by injection e150)
               replace qo:=(HB.out.cell (World.block_lt_of_cell? w _ qo)).trans qo
               have qw:=Ga qy
               have HC150_0:=Ga qz
               clear qy qz
               replace p150:=eq_true p150
               replace q150:=eq_true q150
               refine start_ (n:=9) (S:=fun w'=>w'.cell? ⟨qc,0,none⟩=some (.string ((rd_T71 l0 qa).f0))∧w'.cell? ⟨qc,1,none⟩=some (.int .i64 ((rd_T71 l0 qa).f1))∧w'.cell? ⟨qc,2,none⟩=some (.int .i64 ((rd_T71 l0 qa).f2))∧w'.cell? (qx.add (qe).toNat)=some (.slice yc (rd_L5 l2 qe).length ye)) (ds:=[]) #[false,false,false,false,false,false,false,false,false] (by kernel_rfl) rfl rfl ⟨(Gg qb.out 0).trans rfl,(Gg qb.out 1).trans rfl,(Gg qb.out 2).trans rfl,((HB.out.cell (World.block_lt_of_cell? w _ qp)).trans qp)⟩ (fun hHeld=>?_);refine with_tabW impl_Verify.tab13 impl_Verify.bits13 (fun HT_ HW_=>?_)
               generalize w30.drew=w31 at qd qb HB qw qo hHeld ⊢
               refine pure_ (i:=0) (N:=some 46) (v:=?_) (a':=?_) #[true,false,false,false,false,false,false,false,false] rfl rfl (Gm HT_.out (by kernel_rfl)) (fun _ _ _ h=>h) (Or.inl ⟨by rfl,?_⟩) ?_ ?_
               rotate_left
               ·intro w'
                go_simp
                with_reducible rfl
               rotate_left
               ·simp only [Act.put,List.setIfInBounds_toArray,List.set_cons_zero,List.set_cons_succ,i64_w,i32_w]
                rfl
               refine pure_ (i:=1) (N:=some 47) (v:=?_) (a':=?_) #[true,true,false,false,false,false,false,false,false] rfl rfl (Gm HT_.out (by kernel_rfl)) (fun _ _ _ h=>h) (Or.inl ⟨by rfl,?_⟩) ?_ ?_
               rotate_left
               ·intro w'
                go_simp
                with_reducible rfl
               rotate_left
               ·simp only [Act.put,List.setIfInBounds_toArray,List.set_cons_zero,List.set_cons_succ,i64_w,i32_w]
                rfl
               refine pure_ (i:=2) (N:=some 48) (v:=?_) (a':=?_) #[true,true,true,false,false,false,false,false,false] rfl rfl (Gm HT_.out (by kernel_rfl)) (fun _ _ _ h=>h) (Or.inl ⟨by rfl,?_⟩) ?_ ?_
               rotate_left
               ·intro w'
                go_simp
                with_reducible rfl
               rotate_left
               ·simp only [Act.put,List.setIfInBounds_toArray,List.set_cons_zero,List.set_cons_succ,i64_w,i32_w]
                rfl
               refine pure_ (i:=5) (N:=some 51) (v:=?_) (a':=?_) #[true,true,true,false,false,true,false,false,false] rfl rfl (Gm HT_.out (by kernel_rfl)) (fun _ _ _ h=>h) (Or.inl ⟨by rfl,?_⟩) ?_ ?_
               rotate_left
               ·intro w'
                go_simp
                with_reducible rfl
               rotate_left
               ·simp only [Act.put,List.setIfInBounds_toArray,List.set_cons_zero,List.set_cons_succ,i64_w,i32_w]
                rfl
               refine take_ (i:=3) (N:=some 49) (v:=?_) (a':=?_) #[true,true,true,true,false,true,false,false,false] rfl rfl (take_ofW HT_.out HW_.out (by kernel_rfl)) (fun _ _ _ h=>h) (Or.inl ⟨by rfl,?_⟩) hHeld ?_ ?_
               rotate_left
               ·rintro w' ⟨s0,s1,s2,s3⟩
                go_simp
                with_reducible rfl
               rotate_left
               ·simp only [Act.put,List.setIfInBounds_toArray,List.set_cons_zero,List.set_cons_succ,i64_w,i32_w]
                rfl
               refine take_ (i:=6) (N:=some 52) (v:=?_) (a':=?_) #[true,true,true,true,false,true,true,false,false] rfl rfl (take_ofW HT_.out HW_.out (by kernel_rfl)) (fun _ _ _ h=>h) (Or.inl ⟨by rfl,?_⟩) hHeld ?_ ?_
               rotate_left
               ·rintro w' ⟨s0,s1,s2,s3⟩
                go_simp
                with_reducible rfl
               rotate_left
               ·simp only [Act.put,List.setIfInBounds_toArray,List.set_cons_zero,List.set_cons_succ,i64_w,i32_w]
                rfl
               refine one_ (i:=4) (N:=some 50) #[true,true,true,true,true,true,true,false,false] rfl rfl (one_of HT_.out (by kernel_rfl)) (by decide) (fun K hK=>?_)
               refine goes_ Try.func15 (by kernel_rfl) rfl #[.slice yc (rd_L5 l2 qe).length ye] (by rfl) rfl rfl (by(try simp only [List.map_toArray,List.map_cons,List.map_nil]);first|done|rfl|(simp only [List.length_drop,List.length_take];rfl)) ?_
               with_reducible refine(impl_Digest.calls k2 _ _ (rd_L5 l2 qe) ya _ ?side1 ?side2 A24.out).mono ?_
               (case side1=>repeat(first|exact(Kd.C_below qw.out HB.out)|(with_reducible refine Kd.C_alloc ?_ _)|(with_reducible refine Kd.C_drewN ?_ _)|(with_reducible refine Kd.C_drew ?_)))
               (case side2=>exact HC150_0.out)
               rintro e w32 ⟨rfl,hb⟩
               refine⟨_,rfl,?_⟩
               have qk:=Ga (Kd.R_below (by(with_reducible repeat(first|apply Gh|apply Gi|apply Ge));exact qd.out) hb)
               have ql:=Ga (blk_below (g:=qc) (o:=.cells #[.string ((rd_T71 l0 qa).f0),.int .i64 ((rd_T71 l0 qa).f1),.int .i64 ((rd_T71 l0 qa).f2)] 71 (0,0)) (by(with_reducible repeat(first|refine Gl ?_ _|refine Gf ?_|refine Gk ?_ _));exact qb.out) hb)
               have qn:=Ga (below_step (by repeat(first|(with_reducible first|exact HB.out|apply Gd|apply Gb|apply Gc|refine Gj ?_ qg.out)|exact HB.out)) hb)
               clear qd
               clear qb
               clear HB
               have qd:=qk
               have qb:=ql
               have HB:=qn
               clear qk ql qn
               (try clear hb)
               (try clear hb2)
               (try clear hk)
               (try clear hi)
               refine hK.out _ _ ⟨(Gg qb.out 0).trans rfl,(Gg qb.out 1).trans rfl,(Gg qb.out 2).trans rfl,((HB.out.cell (World.block_lt_of_cell? w _ qp)).trans qp)⟩ (fun hHeld=>?_)
               clear hK K
               refine norm_ (a':=?_) ?_ ?_
               rotate_left
               ·show Act.put _ (some 50) _=_
                simp only [Act.put,List.setIfInBounds_toArray,List.set_cons_zero,List.set_cons_succ,i64_w,i32_w]
                rfl
               refine pure_ (i:=7) (N:=some 53) (v:=?_) (a':=?_) #[true,true,true,true,true,true,true,true,false] rfl rfl (Gm HT_.out (by kernel_rfl)) (fun _ _ _ h=>h) (Or.inl ⟨by rfl,?_⟩) ?_ ?_
               rotate_left
               ·intro w'
                go_simp
                with_reducible rfl
               rotate_left
               ·simp only [Act.put,List.setIfInBounds_toArray,List.set_cons_zero,List.set_cons_succ,i64_w,i32_w]
                rfl
               refine pure_ (i:=8) (N:=some 45) (v:=?_) (a':=?_) #[true,true,true,true,true,true,true,true,true] rfl rfl (Gm HT_.out (by kernel_rfl)) (fun _ _ _ h=>h) (Or.inl ⟨by rfl,?_⟩) ?_ ?_
               rotate_left
               ·intro w'
                go_simp
                with_reducible rfl
               rotate_left
               ·simp only [Act.put,List.setIfInBounds_toArray,List.set_cons_zero,List.set_cons_succ,i64_w,i32_w]
                rfl
               refine done_ (done_of HT_.out (by kernel_rfl)) ?_
               try go_wp2_with (first|((with_reducible refine gate_builtin (b:=.append) (xs:=#[.tmp 54,.tmp 56]) rfl ?_);(try(refine gate_guard (by rfl) ?_;dsimp only));at_builtin;refine Kd.R_append (Kd.int .i64) (w0:=w) w.heap.size rfl (.tmp 54) (.tmp 56) 57 2 (.int .i64 0) 8 rfl Try.underlying57 info2 rfl (by decide) (by omega) u7 qm 0 [.int .i64 0] (fun _=>True) (fun _=>False) rfl rfl ?aP (fun _ hk=>hk.elim) ?aF ?aO ?aB ?aS ?aL ?_;(case aP=>exact rfl);(case aB=>exact(by repeat(first|(with_reducible first|exact HB.out|apply Gd|apply Gb|apply Gc|refine Gj ?_ qg.out)|exact HB.out)));(case aF=>exact(fun _ _=>trivial));(case aO=>exact(by(with_reducible repeat(first|apply Gh|apply Gi|apply Ge));exact qd.out));(case aS=>exact(below_size (by repeat(first|(with_reducible first|exact HB.out|apply Gd|apply Gb|apply Gc|refine Gj ?_ qg.out)|exact HB.out))));(case aL=>have:=LMc26.out;omega);intro v153 w33 ho hb hg hat;rw [← Ny152.out] at ho;have qk:=Ga (blk_grown (g:=qc) (o:=.cells #[.string ((rd_T71 l0 qa).f0),.int .i64 ((rd_T71 l0 qa).f1),.int .i64 ((rd_T71 l0 qa).f2)] 71 (0,0)) (by(with_reducible repeat(first|refine Gl ?_ _|refine Gf ?_|refine Gk ?_ _));exact qb.out) hg (Kd.R_ne qd.out qb.out (by decide)));have ql:=Ga (hb);have qn:=Ga (ho);clear qb;clear HB;clear qd;have qb:=qk;have HB:=ql;have HO154:=qn;clear qk ql qn;clear ho hb hg hat))
               go_roundg k2
               case measure=>have:=HJ3.out;have:=HK2.out;omega
               case rel=>exact⟨(y152),(wrap64 (qa+1)),(by first|rfl|(simp;done)|(simp [*];done)),H',⟨by have:=HJ3.out;have:=HK2.out;omega⟩,⟨by(with_reducible repeat(first|apply Gh|apply Gi|apply Ge));exact HO154.out⟩,⟨by repeat(first|(with_reducible first|exact HB.out|apply Gd|apply Gb|apply Gc|refine Gj ?_ qg.out)|exact HB.out)⟩⟩
              ·rw [if_neg c26] at H
               exact absurd H (by simp)
             ·rw [if_neg c25] at H
              have c25b0:(ya == ((rd_T71 l0 qa).f2))=false:=beq_eq_false_iff_ne.mpr c25
              have c25b1:(ya != ((rd_T71 l0 qa).f2))=true:=bne_iff_ne.mpr c25
              by_cases c34:qm.length < 17592186044416
              ·rw [if_pos c34] at H
               have LMc34:=Ga c34
               clear c34
               obtain⟨y155,hy155⟩:∃ y_:List Int,y_=(qm ++ [3]):=⟨_,rfl⟩
               replace H:(impl_Verify.l0 k2 l1 l2 y155 l0 (l0.length:Int) (wrap64 (qa+1)))=some r:=by first|(rw [hy155];with_reducible exact H)|(have H2_:=(Option.bind_some _ _).symm.trans H;rw [hy155];with_reducible exact H2_)|(have H2_:=(Option.bind_some _ _).symm.trans H;with_reducible exact H2_)|with_reducible exact H|(rw [hy155];exact H)|exact H
               have Ny155:=Ga hy155
               clear hy155
               have H':=Ga H
               clear H
               have qt:0≤(qa:Int):=of_decide_eq_true (by first|(with_reducible assumption)|assumption)
               have qu:qa < (l0.length:Int):=of_decide_eq_true (by first|(with_reducible assumption)|assumption)
               obtain⟨ad143,e143,qh,qi,qj⟩:=at_T71 HR0.out qa qt qu
               cases e143
               replace qh:=(HB.out.cell (World.block_lt_of_cell? w _ qh)).trans qh
               replace qi:=(HB.out.cell (World.block_lt_of_cell? w _ qi)).trans qi
               replace qj:=(HB.out.cell (World.block_lt_of_cell? w _ qj)).trans qj
               replace qt:=eq_true qt
               replace qu:=eq_true qu
               try go_wp2_with (first|((with_reducible refine gate_dst (N:=9) rfl ?_);(try(refine gate_guard (by rfl) ?_;dsimp only));refine box_event ?hg (N:=9) ?hd (cs:=#[.string (⟨#[]⟩:ByteArray),.int .i64 0,.int .i64 0]) (t:=71) ?hr ?_;(case hd=>rfl);(case hg=>rfl);(case hr=>first|(go_simp;done)|(go_simp;rfl));intro qc hg w35 hbox hb;have qk:=Ga (Kd.R_below (by(with_reducible repeat(first|apply Gh|apply Gi|apply Ge));exact qd.out) hb);have ql:=Ga (below_step (by repeat(first|(with_reducible first|exact HB.out|apply Gd|apply Gb|apply Gc)|exact HB.out)) hb);have qn:=Ga (hbox);have n3_:=Ga ((by rw [hg];exact(below_size (by repeat(first|(with_reducible first|exact HB.out|apply Gd|apply Gb|apply Gc)|exact HB.out))):w.heap.size≤qc));have n4_:=Ga ((by rw [hg];exact(below_size (by repeat(first|(with_reducible first|exact HB.out|apply Gd|apply Gb|apply Gc)|exact HB.out))):w.heap.size≤qc));clear qd;clear HB;have qd:=qk;have HB:=ql;have qb:=qn;have GW144:=n3_;have qg:=n4_;clear qk ql qn n3_ n4_;clear hb hbox hg;have hcz36_0:w35.cell? ⟨qc,0,none⟩=some (.string (⟨#[]⟩:ByteArray)):=(Gg qb.out 0).trans rfl;have hcz36_1:w35.cell? ⟨qc,1,none⟩=some (.int .i64 0):=(Gg qb.out 1).trans rfl;have hcz36_2:w35.cell? ⟨qc,2,none⟩=some (.int .i64 0):=(Gg qb.out 2).trans rfl;have hfz36_0:=blk_frozen qb.out 0;have hfz36_1:=blk_frozen qb.out 1;have hfz36_2:=blk_frozen qb.out 2)|((with_reducible refine gate_callee (f:=77) rfl ?_);refine goesL_ (some 32) rfl rfl Try.func77 (by kernel_rfl) rfl #[.slice A1 l1.length c1,.string ((rd_T71 l0 qa).f0)] rfl (by(try simp only [List.map_toArray,List.map_cons,List.map_nil]);first|done|rfl|(simp only [List.length_drop,List.length_take];rfl)) ?_;(with_reducible refine(slices_Index_string_string.calls k2 _ _ l1 ((rd_T71 l0 qa).f0) qe _ ?side1 ?side2 A15.out).mono ?_);(case side1=>exact Kd.C_below HR1.out (by repeat(first|(with_reducible first|exact HB.out|apply Gd|apply Gb|apply Gc|refine Gj ?_ qg.out)|exact HB.out)));(case side2=>exact HC1.out);rintro e w' ⟨rfl,⟨nd,rfl⟩⟩;refine⟨_,rfl,?_⟩))
               have qk:Aside0 (Kd.R (Kd.int .i64) 2 (((w35.setCell ⟨qc,0,none⟩ (.string ((rd_T71 l0 qa).f0))).setCell ⟨qc,1,none⟩ (.int .i64 ((rd_T71 l0 qa).f1))).setCell ⟨qc,2,none⟩ (.int .i64 ((rd_T71 l0 qa).f2))) w.heap.size (fun _=>True) u7 qm):=⟨by(with_reducible repeat(first|apply Gh|apply Gi|apply Ge));exact Kd.R_mono (Kd.R_far (p:=⟨qc,2,none⟩) (Kd.R_far (p:=⟨qc,1,none⟩) (Kd.R_far (p:=⟨qc,0,none⟩) (Kd.R_types qd.out qb.out (by decide)) (fun _ hk=>hk.2) (.string ((rd_T71 l0 qa).f0))) (fun _ hk=>hk.2) (.int .i64 ((rd_T71 l0 qa).f1))) (fun _ hk=>hk.2) (.int .i64 ((rd_T71 l0 qa).f2))) (fun _ hk=>trivial)⟩
               have ql:Aside0 ((((w35.setCell ⟨qc,0,none⟩ (.string ((rd_T71 l0 qa).f0))).setCell ⟨qc,1,none⟩ (.int .i64 ((rd_T71 l0 qa).f1))).setCell ⟨qc,2,none⟩ (.int .i64 ((rd_T71 l0 qa).f2))).heap[qc]? = some (.cells #[.string ((rd_T71 l0 qa).f0),.int .i64 ((rd_T71 l0 qa).f1),.int .i64 ((rd_T71 l0 qa).f2)] 71 (0,0))):=⟨by(with_reducible repeat(first|refine Gl ?_ _|refine Gf ?_|refine Gk ?_ _));refine blk_put (cs:=#[.string ((rd_T71 l0 qa).f0),.int .i64 ((rd_T71 l0 qa).f1),.int .i64 0]) ?_ 2 _ rfl;(with_reducible repeat(first|refine Gl ?_ _|refine Gf ?_|refine Gk ?_ _));refine blk_put (cs:=#[.string ((rd_T71 l0 qa).f0),.int .i64 0,.int .i64 0]) ?_ 1 _ rfl;(with_reducible repeat(first|refine Gl ?_ _|refine Gf ?_|refine Gk ?_ _));refine blk_put (cs:=#[.string (⟨#[]⟩:ByteArray),.int .i64 0,.int .i64 0]) ?_ 0 _ rfl;(with_reducible repeat(first|refine Gl ?_ _|refine Gf ?_|refine Gk ?_ _));exact qb.out⟩
               have qn:Aside0 (Below w.heap.size w (((w35.setCell ⟨qc,0,none⟩ (.string ((rd_T71 l0 qa).f0))).setCell ⟨qc,1,none⟩ (.int .i64 ((rd_T71 l0 qa).f1))).setCell ⟨qc,2,none⟩ (.int .i64 ((rd_T71 l0 qa).f2)))):=⟨by repeat(first|(with_reducible first|exact HB.out|apply Gd|apply Gb|apply Gc|refine Gj ?_ qg.out)|exact HB.out)⟩
               (try clear qd)
               (try clear qb)
               (try clear HB)
               generalize (((w35.setCell ⟨qc,0,none⟩ (.string ((rd_T71 l0 qa).f0))).setCell ⟨qc,1,none⟩ (.int .i64 ((rd_T71 l0 qa).f1))).setCell ⟨qc,2,none⟩ (.int .i64 ((rd_T71 l0 qa).f2)))=w37 at qk ql qn ⊢
               have qd:=qk
               have qb:=ql
               have HB:=qn
               clear qk ql qn
               (try(rw [drewN_self w37];generalize hq_:World.drewN w37 _=w37;have qk:Aside0 (Kd.R (Kd.int .i64) 2 w37 w.heap.size (fun _=>True) u7 qm):=⟨by rw [← hq_];exact(by(with_reducible repeat(first|apply Gh|apply Gi|apply Ge));exact qd.out)⟩;have ql:Aside0 (w37.heap[qc]? = some (.cells #[.string ((rd_T71 l0 qa).f0),.int .i64 ((rd_T71 l0 qa).f1),.int .i64 ((rd_T71 l0 qa).f2)] 71 (0,0))):=⟨by rw [← hq_];exact(by(with_reducible repeat(first|refine Gl ?_ _|refine Gf ?_|refine Gk ?_ _));exact qb.out)⟩;have qn:Aside0 (Below w.heap.size w w37):=⟨by rw [← hq_];exact(by repeat(first|(with_reducible first|exact HB.out|apply Gd|apply Gb|apply Gc|refine Gj ?_ qg.out)|exact HB.out))⟩;clear qd qb HB hq_;have qd:=qk;have qb:=ql;have HB:=qn;clear qk ql qn))
               have qk:=Ga (Ge qd.out)
               have ql:=Ga (Gf qb.out)
               have qn:=Ga (Gc HB.out)
               clear qd
               clear qb
               clear HB
               have qd:=qk
               have qb:=ql
               have HB:=qn
               clear qk ql qn
               have yf:0≤(qe:Int):=of_decide_eq_true (by first|(with_reducible assumption)|assumption)
               have yg:qe < (l2.length:Int):=of_decide_eq_true (by first|(with_reducible assumption)|assumption)
               obtain⟨qx,yb,yd,e149,qf,qr,qq⟩:=at_L5 HR2.out qe yf yg
               have qs:=qf
               cases e149
               replace qf:=(HB.out.cell (World.block_lt_of_cell? w _ qf)).trans qf
               have qv:=Ga qq
               have HC149_0:=Ga qr
               clear qq qr
               replace yf:=eq_true yf
               replace yg:=eq_true yg
               refine start_ (n:=9) (S:=fun w'=>w'.cell? ⟨qc,0,none⟩=some (.string ((rd_T71 l0 qa).f0))∧w'.cell? ⟨qc,1,none⟩=some (.int .i64 ((rd_T71 l0 qa).f1))∧w'.cell? ⟨qc,2,none⟩=some (.int .i64 ((rd_T71 l0 qa).f2))∧w'.cell? (qx.add (qe).toNat)=some (.slice yb (rd_L5 l2 qe).length yd)) (ds:=[]) #[false,false,false,false,false,false,false,false,false] (by kernel_rfl) rfl rfl ⟨(Gg qb.out 0).trans rfl,(Gg qb.out 1).trans rfl,(Gg qb.out 2).trans rfl,((HB.out.cell (World.block_lt_of_cell? w _ qs)).trans qs)⟩ (fun hHeld=>?_);refine with_tabW impl_Verify.tab11 impl_Verify.bits11 (fun HT_ HW_=>?_)
               generalize w37.drew=w38 at qd qb HB qv qf hHeld ⊢
               refine pure_ (i:=0) (N:=some 37) (v:=?_) (a':=?_) #[true,false,false,false,false,false,false,false,false] rfl rfl (Gm HT_.out (by kernel_rfl)) (fun _ _ _ h=>h) (Or.inl ⟨by rfl,?_⟩) ?_ ?_
               rotate_left
               ·intro w'
                go_simp
                with_reducible rfl
               rotate_left
               ·simp only [Act.put,List.setIfInBounds_toArray,List.set_cons_zero,List.set_cons_succ,i64_w,i32_w]
                rfl
               refine pure_ (i:=1) (N:=some 38) (v:=?_) (a':=?_) #[true,true,false,false,false,false,false,false,false] rfl rfl (Gm HT_.out (by kernel_rfl)) (fun _ _ _ h=>h) (Or.inl ⟨by rfl,?_⟩) ?_ ?_
               rotate_left
               ·intro w'
                go_simp
                with_reducible rfl
               rotate_left
               ·simp only [Act.put,List.setIfInBounds_toArray,List.set_cons_zero,List.set_cons_succ,i64_w,i32_w]
                rfl
               refine pure_ (i:=2) (N:=some 39) (v:=?_) (a':=?_) #[true,true,true,false,false,false,false,false,false] rfl rfl (Gm HT_.out (by kernel_rfl)) (fun _ _ _ h=>h) (Or.inl ⟨by rfl,?_⟩) ?_ ?_
               rotate_left
               ·intro w'
                go_simp
                with_reducible rfl
               rotate_left
               ·simp only [Act.put,List.setIfInBounds_toArray,List.set_cons_zero,List.set_cons_succ,i64_w,i32_w]
                rfl
               refine pure_ (i:=5) (N:=some 42) (v:=?_) (a':=?_) #[true,true,true,false,false,true,false,false,false] rfl rfl (Gm HT_.out (by kernel_rfl)) (fun _ _ _ h=>h) (Or.inl ⟨by rfl,?_⟩) ?_ ?_
               rotate_left
               ·intro w'
                go_simp
                with_reducible rfl
               rotate_left
               ·simp only [Act.put,List.setIfInBounds_toArray,List.set_cons_zero,List.set_cons_succ,i64_w,i32_w]
                rfl
               refine take_ (i:=3) (N:=some 40) (v:=?_) (a':=?_) #[true,true,true,true,false,true,false,false,false] rfl rfl (take_ofW HT_.out HW_.out (by kernel_rfl)) (fun _ _ _ h=>h) (Or.inl ⟨by rfl,?_⟩) hHeld ?_ ?_
               rotate_left
               ·rintro w' ⟨s0,s1,s2,s3⟩
                go_simp
                with_reducible rfl
               rotate_left
               ·simp only [Act.put,List.setIfInBounds_toArray,List.set_cons_zero,List.set_cons_succ,i64_w,i32_w]
                rfl
               refine pure_ (i:=4) (N:=some 41) (v:=?_) (a':=?_) #[true,true,true,true,true,true,false,false,false] rfl rfl (Gm HT_.out (by kernel_rfl)) (fun _ _ _ h=>h) (Or.inl ⟨by rfl,?_⟩) ?_ ?_
               rotate_left
               ·intro w'
                go_simp
                with_reducible rfl
               rotate_left
               ·simp only [Act.put,List.setIfInBounds_toArray,List.set_cons_zero,List.set_cons_succ,i64_w,i32_w]
                rfl
               refine take_ (i:=6) (N:=some 43) (v:=?_) (a':=?_) #[true,true,true,true,true,true,true,false,false] rfl rfl (take_ofW HT_.out HW_.out (by kernel_rfl)) (fun _ _ _ h=>h) (Or.inl ⟨by rfl,?_⟩) hHeld ?_ ?_
               rotate_left
               ·rintro w' ⟨s0,s1,s2,s3⟩
                go_simp
                with_reducible rfl
               rotate_left
               ·simp only [Act.put,List.setIfInBounds_toArray,List.set_cons_zero,List.set_cons_succ,i64_w,i32_w]
                rfl
               refine pure_ (i:=7) (N:=some 44) (v:=?_) (a':=?_) #[true,true,true,true,true,true,true,true,false] rfl rfl (Gm HT_.out (by kernel_rfl)) (fun _ _ _ h=>h) (Or.inl ⟨by rfl,?_⟩) ?_ ?_
               rotate_left
               ·intro w'
                go_simp
                with_reducible rfl
               rotate_left
               ·simp only [Act.put,List.setIfInBounds_toArray,List.set_cons_zero,List.set_cons_succ,i64_w,i32_w]
                rfl
               refine pure_ (i:=8) (N:=some 36) (v:=?_) (a':=?_) #[true,true,true,true,true,true,true,true,true] rfl rfl (Gm HT_.out (by kernel_rfl)) (fun _ _ _ h=>h) (Or.inl ⟨by rfl,?_⟩) ?_ ?_
               rotate_left
               ·intro w'
                go_simp
                with_reducible rfl
               rotate_left
               ·simp only [Act.put,List.setIfInBounds_toArray,List.set_cons_zero,List.set_cons_succ,i64_w,i32_w]
                rfl
               refine done_ (done_of HT_.out (by kernel_rfl)) ?_
               try go_wp2
               have qk:=Ga (Ge qd.out)
               have ql:=Ga (Gf qb.out)
               have qn:=Ga (Gc HB.out)
               clear qd
               clear qb
               clear HB
               have qd:=qk
               have qb:=ql
               have HB:=qn
               clear qk ql qn
               have p150:0≤(qe:Int):=of_decide_eq_true (by first|(with_reducible assumption)|assumption)
               have q150:qe < (l2.length:Int):=of_decide_eq_true (by first|(with_reducible assumption)|assumption)
               obtain⟨ad150,yc,ye,e150,qo,qz,qy⟩:=at_L5 HR2.out qe p150 q150
               have qp:=qo
               obtain rfl:qx=ad150:=(by injection e150)
               replace qo:=(HB.out.cell (World.block_lt_of_cell? w _ qo)).trans qo
               have qw:=Ga qy
               have HC150_0:=Ga qz
               clear qy qz
               replace p150:=eq_true p150
               replace q150:=eq_true q150
               refine start_ (n:=9) (S:=fun w'=>w'.cell? ⟨qc,0,none⟩=some (.string ((rd_T71 l0 qa).f0))∧w'.cell? ⟨qc,1,none⟩=some (.int .i64 ((rd_T71 l0 qa).f1))∧w'.cell? ⟨qc,2,none⟩=some (.int .i64 ((rd_T71 l0 qa).f2))∧w'.cell? (qx.add (qe).toNat)=some (.slice yc (rd_L5 l2 qe).length ye)) (ds:=[]) #[false,false,false,false,false,false,false,false,false] (by kernel_rfl) rfl rfl ⟨(Gg qb.out 0).trans rfl,(Gg qb.out 1).trans rfl,(Gg qb.out 2).trans rfl,((HB.out.cell (World.block_lt_of_cell? w _ qp)).trans qp)⟩ (fun hHeld=>?_);refine with_tabW impl_Verify.tab13 impl_Verify.bits13 (fun HT_ HW_=>?_)
               generalize w38.drew=w39 at qd qb HB qw qo hHeld ⊢
               refine pure_ (i:=0) (N:=some 46) (v:=?_) (a':=?_) #[true,false,false,false,false,false,false,false,false] rfl rfl (Gm HT_.out (by kernel_rfl)) (fun _ _ _ h=>h) (Or.inl ⟨by rfl,?_⟩) ?_ ?_
               rotate_left
               ·intro w'
                go_simp
                with_reducible rfl
               rotate_left
               ·simp only [Act.put,List.setIfInBounds_toArray,List.set_cons_zero,List.set_cons_succ,i64_w,i32_w]
                rfl
               refine pure_ (i:=1) (N:=some 47) (v:=?_) (a':=?_) #[true,true,false,false,false,false,false,false,false] rfl rfl (Gm HT_.out (by kernel_rfl)) (fun _ _ _ h=>h) (Or.inl ⟨by rfl,?_⟩) ?_ ?_
               rotate_left
               ·intro w'
                go_simp
                with_reducible rfl
               rotate_left
               ·simp only [Act.put,List.setIfInBounds_toArray,List.set_cons_zero,List.set_cons_succ,i64_w,i32_w]
                rfl
               refine pure_ (i:=2) (N:=some 48) (v:=?_) (a':=?_) #[true,true,true,false,false,false,false,false,false] rfl rfl (Gm HT_.out (by kernel_rfl)) (fun _ _ _ h=>h) (Or.inl ⟨by rfl,?_⟩) ?_ ?_
               rotate_left
               ·intro w'
                go_simp
                with_reducible rfl
               rotate_left
               ·simp only [Act.put,List.setIfInBounds_toArray,List.set_cons_zero,List.set_cons_succ,i64_w,i32_w]
                rfl
               refine pure_ (i:=5) (N:=some 51) (v:=?_) (a':=?_) #[true,true,true,false,false,true,false,false,false] rfl rfl (Gm HT_.out (by kernel_rfl)) (fun _ _ _ h=>h) (Or.inl ⟨by rfl,?_⟩) ?_ ?_
               rotate_left
               ·intro w'
                go_simp
                with_reducible rfl
               rotate_left
               ·simp only [Act.put,List.setIfInBounds_toArray,List.set_cons_zero,List.set_cons_succ,i64_w,i32_w]
                rfl
               refine take_ (i:=3) (N:=some 49) (v:=?_) (a':=?_) #[true,true,true,true,false,true,false,false,false] rfl rfl (take_ofW HT_.out HW_.out (by kernel_rfl)) (fun _ _ _ h=>h) (Or.inl ⟨by rfl,?_⟩) hHeld ?_ ?_
               rotate_left
               ·rintro w' ⟨s0,s1,s2,s3⟩
                go_simp
                with_reducible rfl
               rotate_left
               ·simp only [Act.put,List.setIfInBounds_toArray,List.set_cons_zero,List.set_cons_succ,i64_w,i32_w]
                rfl
               refine take_ (i:=6) (N:=some 52) (v:=?_) (a':=?_) #[true,true,true,true,false,true,true,false,false] rfl rfl (take_ofW HT_.out HW_.out (by kernel_rfl)) (fun _ _ _ h=>h) (Or.inl ⟨by rfl,?_⟩) hHeld ?_ ?_
               rotate_left
               ·rintro w' ⟨s0,s1,s2,s3⟩
                go_simp
                with_reducible rfl
               rotate_left
               ·simp only [Act.put,List.setIfInBounds_toArray,List.set_cons_zero,List.set_cons_succ,i64_w,i32_w]
                rfl
               refine one_ (i:=4) (N:=some 50) #[true,true,true,true,true,true,true,false,false] rfl rfl (one_of HT_.out (by kernel_rfl)) (by decide) (fun K hK=>?_)
               refine goes_ Try.func15 (by kernel_rfl) rfl #[.slice yc (rd_L5 l2 qe).length ye] (by rfl) rfl rfl (by(try simp only [List.map_toArray,List.map_cons,List.map_nil]);first|done|rfl|(simp only [List.length_drop,List.length_take];rfl)) ?_
               with_reducible refine(impl_Digest.calls k2 _ _ (rd_L5 l2 qe) ya _ ?side1 ?side2 A24.out).mono ?_
               (case side1=>repeat(first|exact(Kd.C_below qw.out HB.out)|(with_reducible refine Kd.C_alloc ?_ _)|(with_reducible refine Kd.C_drewN ?_ _)|(with_reducible refine Kd.C_drew ?_)))
               (case side2=>exact HC150_0.out)
               rintro e w40 ⟨rfl,hb⟩
               refine⟨_,rfl,?_⟩
               have qk:=Ga (Kd.R_below (by(with_reducible repeat(first|apply Gh|apply Gi|apply Ge));exact qd.out) hb)
               have ql:=Ga (blk_below (g:=qc) (o:=.cells #[.string ((rd_T71 l0 qa).f0),.int .i64 ((rd_T71 l0 qa).f1),.int .i64 ((rd_T71 l0 qa).f2)] 71 (0,0)) (by(with_reducible repeat(first|refine Gl ?_ _|refine Gf ?_|refine Gk ?_ _));exact qb.out) hb)
               have qn:=Ga (below_step (by repeat(first|(with_reducible first|exact HB.out|apply Gd|apply Gb|apply Gc|refine Gj ?_ qg.out)|exact HB.out)) hb)
               clear qd
               clear qb
               clear HB
               have qd:=qk
               have qb:=ql
               have HB:=qn
               clear qk ql qn
               (try clear hb)
               (try clear hb2)
               (try clear hk)
               (try clear hi)
               refine hK.out _ _ ⟨(Gg qb.out 0).trans rfl,(Gg qb.out 1).trans rfl,(Gg qb.out 2).trans rfl,((HB.out.cell (World.block_lt_of_cell? w _ qp)).trans qp)⟩ (fun hHeld=>?_)
               clear hK K
               refine norm_ (a':=?_) ?_ ?_
               rotate_left
               ·show Act.put _ (some 50) _=_
                simp only [Act.put,List.setIfInBounds_toArray,List.set_cons_zero,List.set_cons_succ,i64_w,i32_w]
                rfl
               refine pure_ (i:=7) (N:=some 53) (v:=?_) (a':=?_) #[true,true,true,true,true,true,true,true,false] rfl rfl (Gm HT_.out (by kernel_rfl)) (fun _ _ _ h=>h) (Or.inl ⟨by rfl,?_⟩) ?_ ?_
               rotate_left
               ·intro w'
                go_simp
                with_reducible rfl
               rotate_left
               ·simp only [Act.put,List.setIfInBounds_toArray,List.set_cons_zero,List.set_cons_succ,i64_w,i32_w]
                rfl
               refine pure_ (i:=8) (N:=some 45) (v:=?_) (a':=?_) #[true,true,true,true,true,true,true,true,true] rfl rfl (Gm HT_.out (by kernel_rfl)) (fun _ _ _ h=>h) (Or.inl ⟨by rfl,?_⟩) ?_ ?_
               rotate_left
               ·intro w'
                go_simp
                with_reducible rfl
               rotate_left
               ·simp only [Act.put,List.setIfInBounds_toArray,List.set_cons_zero,List.set_cons_succ,i64_w,i32_w]
                rfl
               refine done_ (done_of HT_.out (by kernel_rfl)) ?_
               try go_wp2_with (first|((with_reducible refine gate_builtin (b:=.append) (xs:=#[.tmp 54,.tmp 56]) rfl ?_);(try(refine gate_guard (by rfl) ?_;dsimp only));at_builtin;refine Kd.R_append (Kd.int .i64) (w0:=w) w.heap.size rfl (.tmp 54) (.tmp 56) 57 2 (.int .i64 0) 8 rfl Try.underlying57 info2 rfl (by decide) (by omega) u7 qm 3 [.int .i64 3] (fun _=>True) (fun _=>False) rfl rfl ?aP (fun _ hk=>hk.elim) ?aF ?aO ?aB ?aS ?aL ?_;(case aP=>exact rfl);(case aB=>exact(by repeat(first|(with_reducible first|exact HB.out|apply Gd|apply Gb|apply Gc|refine Gj ?_ qg.out)|exact HB.out)));(case aF=>exact(fun _ _=>trivial));(case aO=>exact(by(with_reducible repeat(first|apply Gh|apply Gi|apply Ge));exact qd.out));(case aS=>exact(below_size (by repeat(first|(with_reducible first|exact HB.out|apply Gd|apply Gb|apply Gc|refine Gj ?_ qg.out)|exact HB.out))));(case aL=>have:=LMc34.out;omega);intro v156 w41 ho hb hg hat;rw [← Ny155.out] at ho;have qk:=Ga (blk_grown (g:=qc) (o:=.cells #[.string ((rd_T71 l0 qa).f0),.int .i64 ((rd_T71 l0 qa).f1),.int .i64 ((rd_T71 l0 qa).f2)] 71 (0,0)) (by(with_reducible repeat(first|refine Gl ?_ _|refine Gf ?_|refine Gk ?_ _));exact qb.out) hg (Kd.R_ne qd.out qb.out (by decide)));have ql:=Ga (hb);have qn:=Ga (ho);clear qb;clear HB;clear qd;have qb:=qk;have HB:=ql;have HO157:=qn;clear qk ql qn;clear ho hb hg hat))
               go_roundg k2
               case measure=>have:=HJ3.out;have:=HK2.out;omega
               case rel=>exact⟨(y155),(wrap64 (qa+1)),(by first|rfl|(simp;done)|(simp [*];done)),H',⟨by have:=HJ3.out;have:=HK2.out;omega⟩,⟨by(with_reducible repeat(first|apply Gh|apply Gi|apply Ge));exact HO157.out⟩,⟨by repeat(first|(with_reducible first|exact HB.out|apply Gd|apply Gb|apply Gc|refine Gj ?_ qg.out)|exact HB.out)⟩⟩
              ·rw [if_neg c34] at H
               exact absurd H (by simp)
            ·rw [if_neg c23] at H
             have c23b0:(((rd_L5 l2 qe).length:Int) == ((rd_T71 l0 qa).f1))=false:=beq_eq_false_iff_ne.mpr c23
             have c23b1:(((rd_L5 l2 qe).length:Int) != ((rd_T71 l0 qa).f1))=true:=bne_iff_ne.mpr c23
             by_cases c42:qm.length < 17592186044416
             ·rw [if_pos c42] at H
              have LMc42:=Ga c42
              clear c42
              obtain⟨y158,hy158⟩:∃ y_:List Int,y_=(qm ++ [2]):=⟨_,rfl⟩
              replace H:(impl_Verify.l0 k2 l1 l2 y158 l0 (l0.length:Int) (wrap64 (qa+1)))=some r:=by first|(rw [hy158];with_reducible exact H)|(have H2_:=(Option.bind_some _ _).symm.trans H;rw [hy158];with_reducible exact H2_)|(have H2_:=(Option.bind_some _ _).symm.trans H;with_reducible exact H2_)|with_reducible exact H|(rw [hy158];exact H)|exact H
              have Ny158:=Ga hy158
              clear hy158
              have H':=Ga H
              clear H
              have qt:0≤(qa:Int):=of_decide_eq_true (by first|(with_reducible assumption)|assumption)
              have qu:qa < (l0.length:Int):=of_decide_eq_true (by first|(with_reducible assumption)|assumption)
              obtain⟨ad143,e143,qh,qi,qj⟩:=at_T71 HR0.out qa qt qu
              cases e143
              replace qh:=(HB.out.cell (World.block_lt_of_cell? w _ qh)).trans qh
              replace qi:=(HB.out.cell (World.block_lt_of_cell? w _ qi)).trans qi
              replace qj:=(HB.out.cell (World.block_lt_of_cell? w _ qj)).trans qj
              replace qt:=eq_true qt
              replace qu:=eq_true qu
              try go_wp2_with (first|((with_reducible refine gate_dst (N:=9) rfl ?_);(try(refine gate_guard (by rfl) ?_;dsimp only));refine box_event ?hg (N:=9) ?hd (cs:=#[.string (⟨#[]⟩:ByteArray),.int .i64 0,.int .i64 0]) (t:=71) ?hr ?_;(case hd=>rfl);(case hg=>rfl);(case hr=>first|(go_simp;done)|(go_simp;rfl));intro qc hg w43 hbox hb;have qk:=Ga (Kd.R_below (by(with_reducible repeat(first|apply Gh|apply Gi|apply Ge));exact qd.out) hb);have ql:=Ga (below_step (by repeat(first|(with_reducible first|exact HB.out|apply Gd|apply Gb|apply Gc)|exact HB.out)) hb);have qn:=Ga (hbox);have n3_:=Ga ((by rw [hg];exact(below_size (by repeat(first|(with_reducible first|exact HB.out|apply Gd|apply Gb|apply Gc)|exact HB.out))):w.heap.size≤qc));have n4_:=Ga ((by rw [hg];exact(below_size (by repeat(first|(with_reducible first|exact HB.out|apply Gd|apply Gb|apply Gc)|exact HB.out))):w.heap.size≤qc));clear qd;clear HB;have qd:=qk;have HB:=ql;have qb:=qn;have GW144:=n3_;have qg:=n4_;clear qk ql qn n3_ n4_;clear hb hbox hg;have hcz44_0:w43.cell? ⟨qc,0,none⟩=some (.string (⟨#[]⟩:ByteArray)):=(Gg qb.out 0).trans rfl;have hcz44_1:w43.cell? ⟨qc,1,none⟩=some (.int .i64 0):=(Gg qb.out 1).trans rfl;have hcz44_2:w43.cell? ⟨qc,2,none⟩=some (.int .i64 0):=(Gg qb.out 2).trans rfl;have hfz44_0:=blk_frozen qb.out 0;have hfz44_1:=blk_frozen qb.out 1;have hfz44_2:=blk_frozen qb.out 2)|((with_reducible refine gate_callee (f:=77) rfl ?_);refine goesL_ (some 32) rfl rfl Try.func77 (by kernel_rfl) rfl #[.slice A1 l1.length c1,.string ((rd_T71 l0 qa).f0)] rfl (by(try simp only [List.map_toArray,List.map_cons,List.map_nil]);first|done|rfl|(simp only [List.length_drop,List.length_take];rfl)) ?_;(with_reducible refine(slices_Index_string_string.calls k2 _ _ l1 ((rd_T71 l0 qa).f0) qe _ ?side1 ?side2 A15.out).mono ?_);(case side1=>exact Kd.C_below HR1.out (by repeat(first|(with_reducible first|exact HB.out|apply Gd|apply Gb|apply Gc|refine Gj ?_ qg.out)|exact HB.out)));(case side2=>exact HC1.out);rintro e w' ⟨rfl,⟨nd,rfl⟩⟩;refine⟨_,rfl,?_⟩))
              have qk:Aside0 (Kd.R (Kd.int .i64) 2 (((w43.setCell ⟨qc,0,none⟩ (.string ((rd_T71 l0 qa).f0))).setCell ⟨qc,1,none⟩ (.int .i64 ((rd_T71 l0 qa).f1))).setCell ⟨qc,2,none⟩ (.int .i64 ((rd_T71 l0 qa).f2))) w.heap.size (fun _=>True) u7 qm):=⟨by(with_reducible repeat(first|apply Gh|apply Gi|apply Ge));exact Kd.R_mono (Kd.R_far (p:=⟨qc,2,none⟩) (Kd.R_far (p:=⟨qc,1,none⟩) (Kd.R_far (p:=⟨qc,0,none⟩) (Kd.R_types qd.out qb.out (by decide)) (fun _ hk=>hk.2) (.string ((rd_T71 l0 qa).f0))) (fun _ hk=>hk.2) (.int .i64 ((rd_T71 l0 qa).f1))) (fun _ hk=>hk.2) (.int .i64 ((rd_T71 l0 qa).f2))) (fun _ hk=>trivial)⟩
              have ql:Aside0 ((((w43.setCell ⟨qc,0,none⟩ (.string ((rd_T71 l0 qa).f0))).setCell ⟨qc,1,none⟩ (.int .i64 ((rd_T71 l0 qa).f1))).setCell ⟨qc,2,none⟩ (.int .i64 ((rd_T71 l0 qa).f2))).heap[qc]? = some (.cells #[.string ((rd_T71 l0 qa).f0),.int .i64 ((rd_T71 l0 qa).f1),.int .i64 ((rd_T71 l0 qa).f2)] 71 (0,0))):=⟨by(with_reducible repeat(first|refine Gl ?_ _|refine Gf ?_|refine Gk ?_ _));refine blk_put (cs:=#[.string ((rd_T71 l0 qa).f0),.int .i64 ((rd_T71 l0 qa).f1),.int .i64 0]) ?_ 2 _ rfl;(with_reducible repeat(first|refine Gl ?_ _|refine Gf ?_|refine Gk ?_ _));refine blk_put (cs:=#[.string ((rd_T71 l0 qa).f0),.int .i64 0,.int .i64 0]) ?_ 1 _ rfl;(with_reducible repeat(first|refine Gl ?_ _|refine Gf ?_|refine Gk ?_ _));refine blk_put (cs:=#[.string (⟨#[]⟩:ByteArray),.int .i64 0,.int .i64 0]) ?_ 0 _ rfl;(with_reducible repeat(first|refine Gl ?_ _|refine Gf ?_|refine Gk ?_ _));exact qb.out⟩
              have qn:Aside0 (Below w.heap.size w (((w43.setCell ⟨qc,0,none⟩ (.string ((rd_T71 l0 qa).f0))).setCell ⟨qc,1,none⟩ (.int .i64 ((rd_T71 l0 qa).f1))).setCell ⟨qc,2,none⟩ (.int .i64 ((rd_T71 l0 qa).f2)))):=⟨by repeat(first|(with_reducible first|exact HB.out|apply Gd|apply Gb|apply Gc|refine Gj ?_ qg.out)|exact HB.out)⟩
              (try clear qd)
              (try clear qb)
              (try clear HB)
              generalize (((w43.setCell ⟨qc,0,none⟩ (.string ((rd_T71 l0 qa).f0))).setCell ⟨qc,1,none⟩ (.int .i64 ((rd_T71 l0 qa).f1))).setCell ⟨qc,2,none⟩ (.int .i64 ((rd_T71 l0 qa).f2)))=w45 at qk ql qn ⊢
              have qd:=qk
              have qb:=ql
              have HB:=qn
              clear qk ql qn
              (try(rw [drewN_self w45];generalize hq_:World.drewN w45 _=w45;have qk:Aside0 (Kd.R (Kd.int .i64) 2 w45 w.heap.size (fun _=>True) u7 qm):=⟨by rw [← hq_];exact(by(with_reducible repeat(first|apply Gh|apply Gi|apply Ge));exact qd.out)⟩;have ql:Aside0 (w45.heap[qc]? = some (.cells #[.string ((rd_T71 l0 qa).f0),.int .i64 ((rd_T71 l0 qa).f1),.int .i64 ((rd_T71 l0 qa).f2)] 71 (0,0))):=⟨by rw [← hq_];exact(by(with_reducible repeat(first|refine Gl ?_ _|refine Gf ?_|refine Gk ?_ _));exact qb.out)⟩;have qn:Aside0 (Below w.heap.size w w45):=⟨by rw [← hq_];exact(by repeat(first|(with_reducible first|exact HB.out|apply Gd|apply Gb|apply Gc|refine Gj ?_ qg.out)|exact HB.out))⟩;clear qd qb HB hq_;have qd:=qk;have qb:=ql;have HB:=qn;clear qk ql qn))
              have qk:=Ga (Ge qd.out)
              have ql:=Ga (Gf qb.out)
              have qn:=Ga (Gc HB.out)
              clear qd
              clear qb
              clear HB
              have qd:=qk
              have qb:=ql
              have HB:=qn
              clear qk ql qn
              have yf:0≤(qe:Int):=of_decide_eq_true (by first|(with_reducible assumption)|assumption)
              have yg:qe < (l2.length:Int):=of_decide_eq_true (by first|(with_reducible assumption)|assumption)
              obtain⟨qx,yb,yd,e149,qf,qr,qq⟩:=at_L5 HR2.out qe yf yg
              have qs:=qf
              cases e149
              replace qf:=(HB.out.cell (World.block_lt_of_cell? w _ qf)).trans qf
              have qv:=Ga qq
              have HC149_0:=Ga qr
              clear qq qr
              replace yf:=eq_true yf
              replace yg:=eq_true yg
              refine start_ (n:=9) (S:=fun w'=>w'.cell? ⟨qc,0,none⟩=some (.string ((rd_T71 l0 qa).f0))∧w'.cell? ⟨qc,1,none⟩=some (.int .i64 ((rd_T71 l0 qa).f1))∧w'.cell? ⟨qc,2,none⟩=some (.int .i64 ((rd_T71 l0 qa).f2))∧w'.cell? (qx.add (qe).toNat)=some (.slice yb (rd_L5 l2 qe).length yd)) (ds:=[]) #[false,false,false,false,false,false,false,false,false] (by kernel_rfl) rfl rfl ⟨(Gg qb.out 0).trans rfl,(Gg qb.out 1).trans rfl,(Gg qb.out 2).trans rfl,((HB.out.cell (World.block_lt_of_cell? w _ qs)).trans qs)⟩ (fun hHeld=>?_);refine with_tabW impl_Verify.tab11 impl_Verify.bits11 (fun HT_ HW_=>?_)
              generalize w45.drew=w46 at qd qb HB qv qf hHeld ⊢
              refine pure_ (i:=0) (N:=some 37) (v:=?_) (a':=?_) #[true,false,false,false,false,false,false,false,false] rfl rfl (Gm HT_.out (by kernel_rfl)) (fun _ _ _ h=>h) (Or.inl ⟨by rfl,?_⟩) ?_ ?_
              rotate_left
              ·intro w'
               go_simp
               with_reducible rfl
              rotate_left
              ·simp only [Act.put,List.setIfInBounds_toArray,List.set_cons_zero,List.set_cons_succ,i64_w,i32_w]
               rfl
              refine pure_ (i:=1) (N:=some 38) (v:=?_) (a':=?_) #[true,true,false,false,false,false,false,false,false] rfl rfl (Gm HT_.out (by kernel_rfl)) (fun _ _ _ h=>h) (Or.inl ⟨by rfl,?_⟩) ?_ ?_
              rotate_left
              ·intro w'
               go_simp
               with_reducible rfl
              rotate_left
              ·simp only [Act.put,List.setIfInBounds_toArray,List.set_cons_zero,List.set_cons_succ,i64_w,i32_w]
               rfl
              refine pure_ (i:=2) (N:=some 39) (v:=?_) (a':=?_) #[true,true,true,false,false,false,false,false,false] rfl rfl (Gm HT_.out (by kernel_rfl)) (fun _ _ _ h=>h) (Or.inl ⟨by rfl,?_⟩) ?_ ?_
              rotate_left
              ·intro w'
               go_simp
               with_reducible rfl
              rotate_left
              ·simp only [Act.put,List.setIfInBounds_toArray,List.set_cons_zero,List.set_cons_succ,i64_w,i32_w]
               rfl
              refine pure_ (i:=5) (N:=some 42) (v:=?_) (a':=?_) #[true,true,true,false,false,true,false,false,false] rfl rfl (Gm HT_.out (by kernel_rfl)) (fun _ _ _ h=>h) (Or.inl ⟨by rfl,?_⟩) ?_ ?_
              rotate_left
              ·intro w'
               go_simp
               with_reducible rfl
              rotate_left
              ·simp only [Act.put,List.setIfInBounds_toArray,List.set_cons_zero,List.set_cons_succ,i64_w,i32_w]
               rfl
              refine take_ (i:=3) (N:=some 40) (v:=?_) (a':=?_) #[true,true,true,true,false,true,false,false,false] rfl rfl (take_ofW HT_.out HW_.out (by kernel_rfl)) (fun _ _ _ h=>h) (Or.inl ⟨by rfl,?_⟩) hHeld ?_ ?_
              rotate_left
              ·rintro w' ⟨s0,s1,s2,s3⟩
               go_simp
               with_reducible rfl
              rotate_left
              ·simp only [Act.put,List.setIfInBounds_toArray,List.set_cons_zero,List.set_cons_succ,i64_w,i32_w]
               rfl
              refine pure_ (i:=4) (N:=some 41) (v:=?_) (a':=?_) #[true,true,true,true,true,true,false,false,false] rfl rfl (Gm HT_.out (by kernel_rfl)) (fun _ _ _ h=>h) (Or.inl ⟨by rfl,?_⟩) ?_ ?_
              rotate_left
              ·intro w'
               go_simp
               with_reducible rfl
              rotate_left
              ·simp only [Act.put,List.setIfInBounds_toArray,List.set_cons_zero,List.set_cons_succ,i64_w,i32_w]
               rfl
              refine take_ (i:=6) (N:=some 43) (v:=?_) (a':=?_) #[true,true,true,true,true,true,true,false,false] rfl rfl (take_ofW HT_.out HW_.out (by kernel_rfl)) (fun _ _ _ h=>h) (Or.inl ⟨by rfl,?_⟩) hHeld ?_ ?_
              rotate_left
              ·rintro w' ⟨s0,s1,s2,s3⟩
               go_simp
               with_reducible rfl
              rotate_left
              ·simp only [Act.put,List.setIfInBounds_toArray,List.set_cons_zero,List.set_cons_succ,i64_w,i32_w]
               rfl
              refine pure_ (i:=7) (N:=some 44) (v:=?_) (a':=?_) #[true,true,true,true,true,true,true,true,false] rfl rfl (Gm HT_.out (by kernel_rfl)) (fun _ _ _ h=>h) (Or.inl ⟨by rfl,?_⟩) ?_ ?_
              rotate_left
              ·intro w'
               go_simp
               with_reducible rfl
              rotate_left
              ·simp only [Act.put,List.setIfInBounds_toArray,List.set_cons_zero,List.set_cons_succ,i64_w,i32_w]
               rfl
              refine pure_ (i:=8) (N:=some 36) (v:=?_) (a':=?_) #[true,true,true,true,true,true,true,true,true] rfl rfl (Gm HT_.out (by kernel_rfl)) (fun _ _ _ h=>h) (Or.inl ⟨by rfl,?_⟩) ?_ ?_
              rotate_left
              ·intro w'
               go_simp
               with_reducible rfl
              rotate_left
              ·simp only [Act.put,List.setIfInBounds_toArray,List.set_cons_zero,List.set_cons_succ,i64_w,i32_w]
               rfl
              refine done_ (done_of HT_.out (by kernel_rfl)) ?_
              try go_wp2_with (first|((with_reducible refine gate_builtin (b:=.append) (xs:=#[.tmp 54,.tmp 56]) rfl ?_);(try(refine gate_guard (by rfl) ?_;dsimp only));at_builtin;refine Kd.R_append (Kd.int .i64) (w0:=w) w.heap.size rfl (.tmp 54) (.tmp 56) 57 2 (.int .i64 0) 8 rfl Try.underlying57 info2 rfl (by decide) (by omega) u7 qm 2 [.int .i64 2] (fun _=>True) (fun _=>False) rfl rfl ?aP (fun _ hk=>hk.elim) ?aF ?aO ?aB ?aS ?aL ?_;(case aP=>exact rfl);(case aB=>exact(by repeat(first|(with_reducible first|exact HB.out|apply Gd|apply Gb|apply Gc|refine Gj ?_ qg.out)|exact HB.out)));(case aF=>exact(fun _ _=>trivial));(case aO=>exact(by(with_reducible repeat(first|apply Gh|apply Gi|apply Ge));exact qd.out));(case aS=>exact(below_size (by repeat(first|(with_reducible first|exact HB.out|apply Gd|apply Gb|apply Gc|refine Gj ?_ qg.out)|exact HB.out))));(case aL=>have:=LMc42.out;omega);intro v159 w47 ho hb hg hat;rw [← Ny158.out] at ho;have qk:=Ga (blk_grown (g:=qc) (o:=.cells #[.string ((rd_T71 l0 qa).f0),.int .i64 ((rd_T71 l0 qa).f1),.int .i64 ((rd_T71 l0 qa).f2)] 71 (0,0)) (by(with_reducible repeat(first|refine Gl ?_ _|refine Gf ?_|refine Gk ?_ _));exact qb.out) hg (Kd.R_ne qd.out qb.out (by decide)));have ql:=Ga (hb);have qn:=Ga (ho);clear qb;clear HB;clear qd;have qb:=qk;have HB:=ql;have HO160:=qn;clear qk ql qn;clear ho hb hg hat))
              go_roundg k2
              case measure=>have:=HJ3.out;have:=HK2.out;omega
              case rel=>exact⟨(y158),(wrap64 (qa+1)),(by first|rfl|(simp;done)|(simp [*];done)),H',⟨by have:=HJ3.out;have:=HK2.out;omega⟩,⟨by(with_reducible repeat(first|apply Gh|apply Gi|apply Ge));exact HO160.out⟩,⟨by repeat(first|(with_reducible first|exact HB.out|apply Gd|apply Gb|apply Gc|refine Gj ?_ qg.out)|exact HB.out)⟩⟩
             ·rw [if_neg c42] at H
              exact absurd H (by simp)
           ·rw [if_neg c22] at H
            exact absurd H (by simp)
          ·rw [if_neg c21] at H
           exact absurd H (by simp)
        ·rw [if_neg c14] at H
         exact absurd H (by simp)
       ·rw [if_neg c13] at H
        exact absurd H (by simp)
      ·rw [if_neg c12] at H
       have c12b0:decide (qa < (l0.length:Int))=false:=decide_eq_false c12
       clear c12
       obtain rfl:=Option.some.inj H
       go_wp2
       go_ret
       exact⟨_,by first|rfl|(simp [errW_none,errW_some] <;> rfl)|(simp [*,errW_none,errW_some] <;> rfl),by(with_reducible repeat(first|apply Gh|apply Gi|apply Ge));exact qd.out,by repeat(first|(with_reducible first|exact HB.out|apply Gd|apply Gb|apply Gc)|exact HB.out)⟩

end Go.Proofs.Ytelcpfanjjfgdaa.HFnPacked
