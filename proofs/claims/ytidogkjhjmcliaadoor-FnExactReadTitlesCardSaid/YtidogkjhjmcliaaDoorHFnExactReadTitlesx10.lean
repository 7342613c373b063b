-- Laid by myprint.py, a program of this repo, out of the kit's printer and this repo's own texts (wip/hand).
import Derived.Test.YtidogkjhjmcliaaDoorHFnExactReadTitlesx0
import Derived.Test.YtidogkjhjmcliaaDoorHFnExactReadTitlesx1
import Derived.Test.YtidogkjhjmcliaaDoorHFnExactReadTitlesx5
import Derived.Test.YtidogkjhjmcliaaDoorHFnExactReadTitlesx9
namespace Go.Proofs.YtidogkjhjmcliaaDoor.HFnExactReadTitles
open Go.RowKit Go.Proofs.YtidogkjhjmcliaaDoorW.PrintWords Go.Proofs.YtidogkjhjmcliaaDoorW.PrintLast Go.Proofs.YtidogkjhjmcliaaDoorW.PrintMore
attribute [local go_sem] max2_int min2_int max_two min_two max_three min_three max_four min_four   -- for this text's walks alone
set_option linter.unusedVariables false
set_option linter.unusedSimpArgs false
theorem Ka : type_of% @Aside0.mk := @Aside0.mk
theorem Kb : type_of% @blk_drew := @blk_drew
theorem Kc : type_of% @Kd.R_drew := @Kd.R_drew
theorem Ke : type_of% @below_set := @below_set
theorem Kf : type_of% @blk_alloc := @blk_alloc
theorem Kg : type_of% @blk_drewN := @blk_drewN
theorem Kh : type_of% @pw_below_drewN := @pw_below_drewN
theorem Ki : type_of% @Kd.R_alloc := @Kd.R_alloc
theorem Kj : type_of% @Kd.R_drewN := @Kd.R_drewN
theorem Kk : type_of% @below_alloc := @below_alloc
theorem Kl : type_of% @below_drew1 := @below_drew1
theorem Km : type_of% @Kd.R_reads' := @Kd.R_reads'
theorem Kn : type_of% @blk_below := @blk_below
theorem Ko : type_of% @Kd.R_far := @Kd.R_far
theorem Kp : type_of% @Kd.R_below := @Kd.R_below
theorem Kq : type_of% @Kd.R_mono := @Kd.R_mono
theorem Kr : type_of% @Kd.R_types := @Kd.R_types
theorem Ks : type_of% @below_step := @below_step
theorem Kt : type_of% @gate_callee := @gate_callee

/-! ### laws_FnExactReadTitles: function 4 -/
mutual
def laws_FnExactReadTitles.j0 : Nat → ByteArray → List (S40) → List (S40) → Bool → Int → Int → Option (Bool)
 | 0, _, _, _, _, _, _ => none
 | k + 1, x0, x3, x5, x33, x258000, x258001 => if x33 = true then (some false) else ((laws_markTitleS.f k x5 1).bind fun bt266 => ((laws_heldTitleS.f k bt266.2 1).bind fun yf => (if yf < 0 then (some false) else (if yf = bt266.1 then ((impl_ReadTitles.f k x0).bind fun bt269 => ((laws_eqTitleS.f k bt269.1 x3).bind fun yn => (if yn = true then ((laws_eqTitleFault.f bt269.2.1 bt269.2.2 x258000 x258001).bind fun yi => (laws_FnExactReadTitles.j1 k bt266.2 bt266.1 (!yi))) else (laws_FnExactReadTitles.j1 k bt266.2 bt266.1 true)))) else (some false)))))
def laws_FnExactReadTitles.j1 : Nat → List (S40) → Int → Bool → Option (Bool)
 | 0, _, _, _ => none
 | k + 1, x5, x7, x59 => if x59 = true then (some false) else ((laws_heldTitleS.f k x5 1).bind fun yh => (if yh < 0 then (some false) else (if yh = x7 then (some true) else (some false))))
end
def laws_FnExactReadTitles.f (k : Nat) (a0 : ByteArray) : Option (Bool) := if (a0.size : Int) > 1048576 then (some true) else ((spec_ReadTitles.f k a0).bind fun bt252 => ((impl_ReadTitles.f k a0).bind fun bt258 => ((laws_eqTitleS.f k bt258.1 bt252.1).bind fun yp => (if yp = true then ((laws_eqTitleFault.f bt258.2.1 bt258.2.2 bt252.2.1 bt252.2.2).bind fun yj => (laws_FnExactReadTitles.j0 k a0 bt252.1 bt258.1 (!yj) bt252.2.1 bt252.2.2)) else (laws_FnExactReadTitles.j0 k a0 bt252.1 bt258.1 true bt252.2.1 bt252.2.2)))))
theorem laws_FnExactReadTitles.mono_l : ∀ k, (∀ y0 y1 y2 y3 y4 y5, LeO (laws_FnExactReadTitles.j0 k y0 y1 y2 y3 y4 y5) (laws_FnExactReadTitles.j0 (k + 1) y0 y1 y2 y3 y4 y5)) ∧ (∀ y0 y1 y2, LeO (laws_FnExactReadTitles.j1 k y0 y1 y2) (laws_FnExactReadTitles.j1 (k + 1) y0 y1 y2))
 | 0 => ⟨fun _ _ _ _ _ _ r h => by simp [laws_FnExactReadTitles.j0] at h, fun _ _ _ r h => by simp [laws_FnExactReadTitles.j1] at h⟩
 | k + 1 => by
  obtain⟨ih0,ih1⟩:=laws_FnExactReadTitles.mono_l k
  refine⟨?_,?_⟩
  ·intro y0 y1 y2 y3 y4 y5
   unfold laws_FnExactReadTitles.j0
   repeat' first
   | (with_reducible exact ih0 _ _ _ _ _ _)
   | (with_reducible exact ih1 _ _ _)
   | (with_reducible exact impl_ReadTitles.mono _ _)
   | (with_reducible exact laws_eqTitleS.mono _ _ _)
   | (with_reducible exact laws_heldTitleS.mono _ _ _)
   | (with_reducible exact laws_markTitleS.mono _ _ _)
   | (with_reducible exact spec_ReadTitles.mono _ _)
   | (with_reducible exact LeO.refl _)
   | (with_reducible exact LeO.none _)
   | (with_reducible refine LeO.ite ?_ ?_)
   | (with_reducible refine LeO.bind ?_ (fun _ => ?_))
   | exact ih0 _ _ _ _ _ _
   | exact ih1 _ _ _
   | exact impl_ReadTitles.mono _ _
   | exact laws_eqTitleS.mono _ _ _
   | exact laws_heldTitleS.mono _ _ _
   | exact laws_markTitleS.mono _ _ _
   | exact spec_ReadTitles.mono _ _
   | exact LeO.none _
   | refine LeO.ite ?_ ?_
   | refine LeO.bind ?_ (fun _ => ?_)
  ·intro y0 y1 y2
   unfold laws_FnExactReadTitles.j1
   repeat' first
   | (with_reducible exact ih0 _ _ _ _ _ _)
   | (with_reducible exact ih1 _ _ _)
   | (with_reducible exact impl_ReadTitles.mono _ _)
   | (with_reducible exact laws_eqTitleS.mono _ _ _)
   | (with_reducible exact laws_heldTitleS.mono _ _ _)
   | (with_reducible exact laws_markTitleS.mono _ _ _)
   | (with_reducible exact spec_ReadTitles.mono _ _)
   | (with_reducible exact LeO.refl _)
   | (with_reducible exact LeO.none _)
   | (with_reducible refine LeO.ite ?_ ?_)
   | (with_reducible refine LeO.bind ?_ (fun _ => ?_))
   | exact ih0 _ _ _ _ _ _
   | exact ih1 _ _ _
   | exact impl_ReadTitles.mono _ _
   | exact laws_eqTitleS.mono _ _ _
   | exact laws_heldTitleS.mono _ _ _
   | exact laws_markTitleS.mono _ _ _
   | exact spec_ReadTitles.mono _ _
   | exact LeO.none _
   | refine LeO.ite ?_ ?_
   | refine LeO.bind ?_ (fun _ => ?_)
theorem laws_FnExactReadTitles.mono : ∀ a0 k, LeO (laws_FnExactReadTitles.f k a0) (laws_FnExactReadTitles.f (k + 1) a0) := by
 intro a0 k
 obtain⟨ih0,ih1⟩:=laws_FnExactReadTitles.mono_l k
 unfold laws_FnExactReadTitles.f
 repeat' first
   | (with_reducible exact ih0 _ _ _ _ _ _)
   | (with_reducible exact ih1 _ _ _)
   | (with_reducible exact impl_ReadTitles.mono _ _)
   | (with_reducible exact laws_eqTitleS.mono _ _ _)
   | (with_reducible exact laws_heldTitleS.mono _ _ _)
   | (with_reducible exact laws_markTitleS.mono _ _ _)
   | (with_reducible exact spec_ReadTitles.mono _ _)
   | (with_reducible exact LeO.refl _)
   | (with_reducible exact LeO.none _)
   | (with_reducible refine LeO.ite ?_ ?_)
   | (with_reducible refine LeO.bind ?_ (fun _ => ?_))
   | exact ih0 _ _ _ _ _ _
   | exact ih1 _ _ _
   | exact impl_ReadTitles.mono _ _
   | exact laws_eqTitleS.mono _ _ _
   | exact laws_heldTitleS.mono _ _ _
   | exact laws_markTitleS.mono _ _ _
   | exact spec_ReadTitles.mono _ _
   | exact LeO.none _
   | refine LeO.ite ?_ ?_
   | refine LeO.bind ?_ (fun _ => ?_)
set_option maxHeartbeats 8000000 in
set_option maxRecDepth 100000 in
theorem laws_FnExactReadTitles.calls (k : Nat) (a0 : ByteArray) (r : Bool) (w : World) (hgl : Glob w) (h : laws_FnExactReadTitles.f k a0 = some r) :
  Calls Tryd.prog 4 #[.string a0] w fun e w'=>e=.returned (.bool r)∧Below w.heap.size w w':=by
 have HGL:=Ka hgl
 clear hgl
 have hu30:=Tryd.underlying30
 have HB:=Ka (Below.refl w.heap.size w)
 have H:(if (a0.size:Int) > 1048576 then (some true) else ((spec_ReadTitles.f k a0).bind fun bt252=>((impl_ReadTitles.f k a0).bind fun bt258=>((laws_eqTitleS.f k bt258.1 bt252.1).bind fun yp=>(if yp=true then ((laws_eqTitleFault.f bt258.2.1 bt258.2.2 bt252.2.1 bt252.2.2).bind fun yj=>(laws_FnExactReadTitles.j0 k a0 bt252.1 bt258.1 (!yj) bt252.2.1 bt252.2.2)) else (laws_FnExactReadTitles.j0 k a0 bt252.1 bt258.1 true bt252.2.1 bt252.2.2))))))=some r:=h
 clear h
 by_cases c2:(a0.size:Int) > 1048576
 ·rw [if_pos c2] at H
  have c2b0:decide (1048576 < (a0.size:Int))=true:=decide_eq_true c2
  have c2b1:decide (1048576 < a0.size)=true:=decide_eq_true (by omega)
  clear c2
  obtain rfl:=Option.some.inj H
  go_enter Tryd.func4,Tryd.ntmps4
  go_wp2
  go_ret
  exact⟨by first|rfl|(simp [errW_none,errW_some] <;> rfl)|(simp [*,errW_none,errW_some] <;> rfl),by repeat(first|(with_reducible first|exact HB.out|apply Kk|apply Kh|apply Kl)|exact HB.out)⟩
 ·rw [if_neg c2] at H
  have c2b0:decide (1048576 < (a0.size:Int))=false:=decide_eq_false c2
  have c2b1:decide (1048576 < a0.size)=false:=decide_eq_false (by omega)
  clear c2
  replace H:=Option.bind_eq_some_iff.mp H
  obtain⟨⟨qp,qj,qk⟩,A30,H⟩:=H
  replace H:((impl_ReadTitles.f k a0).bind fun bt258=>((laws_eqTitleS.f k bt258.1 qp).bind fun yp=>(if yp=true then ((laws_eqTitleFault.f bt258.2.1 bt258.2.2 qj qk).bind fun yj=>(laws_FnExactReadTitles.j0 k a0 qp bt258.1 (!yj) qj qk)) else (laws_FnExactReadTitles.j0 k a0 qp bt258.1 true qj qk))))=some r:=H
  have A3:=Ka A30
  clear A30
  replace H:=Option.bind_eq_some_iff.mp H
  obtain⟨⟨ql,qq,qr⟩,A40,H⟩:=H
  replace H:((laws_eqTitleS.f k ql qp).bind fun yp=>(if yp=true then ((laws_eqTitleFault.f qq qr qj qk).bind fun yj=>(laws_FnExactReadTitles.j0 k a0 qp ql (!yj) qj qk)) else (laws_FnExactReadTitles.j0 k a0 qp ql true qj qk)))=some r:=H
  have A4:=Ka A40
  clear A40
  have HC5:=Ka H
  clear H
  go_enter Tryd.func4,Tryd.ntmps4
  go_upto_region 5 with (first|((with_reducible refine Kt (f:=11) rfl ?_);refine goesL_ (some 16) rfl rfl Tryd.func11 (by kernel_rfl) rfl #[.string a0] rfl (by(try simp only [List.map_toArray,List.map_cons,List.map_nil]);first|done|rfl|(simp only [List.length_drop,List.length_take];rfl)) ?_;(with_reducible refine(spec_ReadTitles.calls k a0 qp qj qk _ A3.out).mono ?_);rintro e w6 ⟨v253,rfl,ho0,hb⟩;refine⟨_,rfl,?_⟩;have qt:=Ka (Kd.R_lower ho0 (below_size (by repeat(first|(with_reducible first|exact HB.out|apply Kk|apply Kh|apply Kl)|exact HB.out))));have qu:=Ka (Ks (by repeat(first|(with_reducible first|exact HB.out|apply Kk|apply Kh|apply Kl)|exact HB.out)) hb);clear HB;have qm:=qt;have HB:=qu;clear qt qu;(try clear hb);(try clear hb2);(try clear hk);(try clear hi);(try clear ho0))|((with_reducible refine gate_dst (N:=4) rfl ?_);refine box_event ?hg (N:=4) ?hd (cs:=#[.int .i64 0,.int .i64 0]) (t:=30) ?hr ?_;(case hd=>rfl);(case hg=>rfl);(case hr=>first|(go_simp;done)|(go_simp;rfl));intro qg hg w7 hbox hb;have qt:=Ka (Kp (by(with_reducible repeat(first|apply Ki|apply Kj|apply Kc));exact qm.out) hb);have qu:=Ka (Ks (by repeat(first|(with_reducible first|exact HB.out|apply Kk|apply Kh|apply Kl)|exact HB.out)) hb);have qv:=Ka (hbox);have qw:=Ka ((by rw [hg];exact(below_size (by repeat(first|(with_reducible first|exact HB.out|apply Kk|apply Kh|apply Kl)|exact HB.out))):w.heap.size≤qg));have qz:=Ka ((by rw [hg];exact(below_size (by repeat(first|(with_reducible first|exact HB.out|apply Kk|apply Kh|apply Kl)|exact HB.out))):w.heap.size≤qg));clear qm;clear HB;have qm:=qt;have HB:=qu;have qa:=qv;have GW257:=qw;have qf:=qz;clear qt qu qv qw qz;clear hb hbox hg;have hcz8_0:w7.cell? ⟨qg,0,none⟩=some (.int .i64 0):=(blk_cell qa.out 0).trans rfl;have hcz8_1:w7.cell? ⟨qg,1,none⟩=some (.int .i64 0):=(blk_cell qa.out 1).trans rfl;have hfz8_0:=blk_frozen qa.out 0;have hfz8_1:=blk_frozen qa.out 1)|((with_reducible refine Kt (f:=12) rfl ?_);refine goesL_ (some 21) rfl rfl Tryd.func12 (by kernel_rfl) rfl #[.string a0] rfl (by(try simp only [List.map_toArray,List.map_cons,List.map_nil]);first|done|rfl|(simp only [List.length_drop,List.length_take];rfl)) ?_;(with_reducible refine(impl_ReadTitles.calls k a0 ql qq qr _ (by first|exact HGL.out|((repeat(with_reducible refine Glob.drewN ?_));exact HGL.out)|exact Glob.below HGL.out (by repeat(first|(with_reducible first|exact HB.out|apply Kk|apply Kh|apply Kl|refine Ke ?_ qf.out|refine Ke ?_ qi.out|refine Ke ?_ yg.out)|exact HB.out))) A4.out).mono ?_);rintro e w9 ⟨v259,rfl,ho0,hb⟩;refine⟨_,rfl,?_⟩;have qt:=Ka (Kd.R_elder' (by(with_reducible repeat(first|apply Ki|apply Kj|apply Kc));exact(Kq (Ko (p:=⟨qg,1,none⟩) (Ko (p:=⟨qg,0,none⟩) (Kr qm.out qa.out (by decide)) (fun _ hk=>hk.2) (.int .i64 qj)) (fun _ hk=>hk.2) (.int .i64 qk)) (fun _ h_=>h_.1))) (Kd.R_base ho0) hb);have qu:=Ka (Kd.R_lower (Kd.R_new' ho0 (Kd.R_lt (by(with_reducible repeat(first|apply Ki|apply Kj|apply Kc));exact(Kq (Ko (p:=⟨qg,1,none⟩) (Ko (p:=⟨qg,0,none⟩) (Kr qm.out qa.out (by decide)) (fun _ hk=>hk.2) (.int .i64 qj)) (fun _ hk=>hk.2) (.int .i64 qk)) (fun _ h_=>h_.1))))) (below_size (by repeat(first|(with_reducible first|exact HB.out|apply Kk|apply Kh|apply Kl|refine Ke ?_ qf.out)|exact HB.out))));have qv:=Ka (Kn (g:=qg) (o:=.cells #[.int .i64 qj,.int .i64 qk] 30 (0,0)) (by(with_reducible repeat(first|refine Kg ?_ _|refine Kb ?_|refine Kf ?_ _));refine blk_put (cs:=#[.int .i64 qj,.int .i64 0]) ?_ 1 _ rfl;(with_reducible repeat(first|refine Kg ?_ _|refine Kb ?_|refine Kf ?_ _));refine blk_put (cs:=#[.int .i64 0,.int .i64 0]) ?_ 0 _ rfl;(with_reducible repeat(first|refine Kg ?_ _|refine Kb ?_|refine Kf ?_ _));exact qa.out) hb);have qw:=Ka (Ks (by repeat(first|(with_reducible first|exact HB.out|apply Kk|apply Kh|apply Kl|refine Ke ?_ qf.out)|exact HB.out)) hb);clear qm;clear qa;clear HB;have qm:=qt;have qs:=qu;have qa:=qv;have HB:=qw;clear qt qu qv qw;(try clear hb);(try clear hb2);(try clear hk);(try clear hi);(try clear ho0))|((with_reducible refine gate_dst (N:=6) rfl ?_);refine box_event ?hg (N:=6) ?hd (cs:=#[.int .i64 0,.int .i64 0]) (t:=30) ?hr ?_;(case hd=>rfl);(case hg=>rfl);(case hr=>first|(go_simp;done)|(go_simp;rfl));intro qd hg w10 hbox hb;have qt:=Ka (Kp (by(with_reducible repeat(first|apply Ki|apply Kj|apply Kc));exact qm.out) hb);have qu:=Ka (Kp (by(with_reducible repeat(first|apply Ki|apply Kj|apply Kc));exact qs.out) hb);have qv:=Ka (Kn (g:=qg) (o:=.cells #[.int .i64 qj,.int .i64 qk] 30 (0,0)) (by(with_reducible repeat(first|refine Kg ?_ _|refine Kb ?_|refine Kf ?_ _));exact qa.out) hb);have qw:=Ka (Ks (by repeat(first|(with_reducible first|exact HB.out|apply Kk|apply Kh|apply Kl|refine Ke ?_ qf.out)|exact HB.out)) hb);have qz:=Ka (hbox);have n5_:=Ka ((by rw [hg];exact(below_size (by repeat(first|(with_reducible first|exact HB.out|apply Kk|apply Kh|apply Kl|refine Ke ?_ qf.out)|exact HB.out))):w.heap.size≤qd));have n6_:=Ka ((by rw [hg];exact(below_size (by repeat(first|(with_reducible first|exact HB.out|apply Kk|apply Kh|apply Kl|refine Ke ?_ qf.out)|exact HB.out))):w.heap.size≤qd));have n7_:=Ka ((by rw [hg];exact Nat.ne_of_lt (blk_lt (g:=qg) (o:=.cells #[.int .i64 qj,.int .i64 qk] 30 (0,0)) (by(with_reducible repeat(first|refine Kg ?_ _|refine Kb ?_|refine Kf ?_ _));exact qa.out)):qg≠qd));have n8_:=Ka ((by rw [hg];exact Nat.ne_of_gt (blk_lt (g:=qg) (o:=.cells #[.int .i64 qj,.int .i64 qk] 30 (0,0)) (by(with_reducible repeat(first|refine Kg ?_ _|refine Kb ?_|refine Kf ?_ _));exact qa.out)):qd≠qg));clear qm;clear qs;clear qa;clear HB;have qm:=qt;have qs:=qu;have qa:=qv;have HB:=qw;have qb:=qz;have GW263:=n5_;have qi:=n6_;have ya:=n7_;have yl:=n8_;clear qt qu qv qw qz n5_ n6_ n7_ n8_;clear hb hbox hg;have hnb11:=yl.out;have hnc11:=ya.out;have hcz12_0:w10.cell? ⟨qd,0,none⟩=some (.int .i64 0):=(blk_cell qb.out 0).trans rfl;have hcz12_1:w10.cell? ⟨qd,1,none⟩=some (.int .i64 0):=(blk_cell qb.out 1).trans rfl;have hfz12_0:=blk_frozen qb.out 0;have hfz12_1:=blk_frozen qb.out 1))
  (try simp only [Act.put,List.setIfInBounds_toArray,List.set_cons_zero,List.set_cons_succ])
  go_cut [33] (fun v33 wc=>∃ (kq:Nat) (x33_4:Bool),v33=.bool x33_4∧Aside0 (laws_FnExactReadTitles.j0 kq a0 qp ql x33_4 qj qk=some r)∧Aside0 (kq≤k)∧Aside0 (Kd.R k40 40 wc w.heap.size (fun k_=>some k_≠(v259:Value).ownBlock) v253 qp)∧Aside0 (Kd.R k40 40 wc w.heap.size (fun k_=>some k_≠(v253:Value).ownBlock) v259 ql)∧Aside0 (wc.heap[qg]? = some (.cells #[.int .i64 qj,.int .i64 qk] 30 (0,0)))∧Aside0 (wc.heap[qd]? = some (.cells #[.int .i64 qq,.int .i64 qr] 30 (0,0)))∧Aside0 (Below w.heap.size w wc))
  case first=>
   have H:=HC5.out
   clear HC5
   replace H:=Option.bind_eq_some_iff.mp H
   obtain⟨yp,A130,H⟩:=H
   replace H:(if yp=true then ((laws_eqTitleFault.f qq qr qj qk).bind fun yj=>(laws_FnExactReadTitles.j0 k a0 qp ql (!yj) qj qk)) else (laws_FnExactReadTitles.j0 k a0 qp ql true qj qk))=some r:=H
   have A13:=Ka A130
   clear A130
   by_cases c14:yp=true
   ·subst c14
    have H1:((laws_eqTitleFault.f qq qr qj qk).bind fun yj=>(laws_FnExactReadTitles.j0 k a0 qp ql (!yj) qj qk))=some r:=by rw [if_pos rfl] at H;exact H
    clear H
    have H:=H1
    clear H1
    replace H:=Option.bind_eq_some_iff.mp H
    obtain⟨yj,A150,H⟩:=H
    replace H:(laws_FnExactReadTitles.j0 k a0 qp ql (!yj) qj qk)=some r:=H
    have A15:=Ka A150
    clear A150
    have H':=Ka H
    clear H
    obtain⟨Ao16,co16,eo16⟩:=Kd.R_slice qs.out
    subst eo16
    obtain⟨Ao17,co17,eo17⟩:=Kd.R_slice qm.out
    subst eo17
    go_wp2_with (first|((with_reducible refine Kt (f:=10) rfl ?_);refine goesL_ (some 26) rfl rfl Tryd.func10 (by kernel_rfl) rfl #[.slice Ao16 ql.length co16,.slice Ao17 qp.length co17] rfl (by(try simp only [List.map_toArray,List.map_cons,List.map_nil]);first|done|rfl|(simp only [List.length_drop,List.length_take];rfl)) ?_;(with_reducible refine(laws_eqTitleS.calls k _ _ ql _ _ qp true _ ?side1 ?side2 ?side3 ?side4 A13.out).mono ?_);(case side1=>refine(Km (e:=40) (base:=w.heap.size) (ok:=fun k_=>(True∧some k_≠(.slice Ao17 qp.length co17:Value).ownBlock)) (n:=ql.length) (c:=co16) ?_).2.2;exact(by(with_reducible repeat(first|apply Ki|apply Kj|apply Kc));exact(Kq (Ko (p:=⟨qd,1,none⟩) (Ko (p:=⟨qd,0,none⟩) (Kr qs.out qb.out (by decide)) (fun _ hk=>hk.2) (.int .i64 qq)) (fun _ hk=>hk.2) (.int .i64 qr)) (fun _ h_=>h_.1))));(case side2=>exact(Km qs.out).2.1);(case side3=>refine(Km (e:=40) (base:=w.heap.size) (ok:=fun k_=>(True∧some k_≠(.slice Ao16 ql.length co16:Value).ownBlock)) (n:=qp.length) (c:=co17) ?_).2.2;exact(by(with_reducible repeat(first|apply Ki|apply Kj|apply Kc));exact(Kq (Ko (p:=⟨qd,1,none⟩) (Ko (p:=⟨qd,0,none⟩) (Kr qm.out qb.out (by decide)) (fun _ hk=>hk.2) (.int .i64 qq)) (fun _ hk=>hk.2) (.int .i64 qr)) (fun _ h_=>h_.1))));(case side4=>exact(Km qm.out).2.1);rintro e w18 ⟨rfl,hb⟩;refine⟨_,rfl,?_⟩;have qt:=Ka (Kp (by(with_reducible repeat(first|apply Ki|apply Kj|apply Kc));exact(Kq (Ko (p:=⟨qd,1,none⟩) (Ko (p:=⟨qd,0,none⟩) (Kr qm.out qb.out (by decide)) (fun _ hk=>hk.2) (.int .i64 qq)) (fun _ hk=>hk.2) (.int .i64 qr)) (fun _ h_=>h_.1))) hb);have qu:=Ka (Kp (by(with_reducible repeat(first|apply Ki|apply Kj|apply Kc));exact(Kq (Ko (p:=⟨qd,1,none⟩) (Ko (p:=⟨qd,0,none⟩) (Kr qs.out qb.out (by decide)) (fun _ hk=>hk.2) (.int .i64 qq)) (fun _ hk=>hk.2) (.int .i64 qr)) (fun _ h_=>h_.1))) hb);have qv:=Ka (Kn (g:=qg) (o:=.cells #[.int .i64 qj,.int .i64 qk] 30 (0,0)) (by(with_reducible repeat(first|refine Kg ?_ _|refine Kb ?_|refine Kf ?_ _));refine blk_far ?_ ya.out _;(with_reducible repeat(first|refine Kg ?_ _|refine Kb ?_|refine Kf ?_ _));refine blk_far ?_ ya.out _;(with_reducible repeat(first|refine Kg ?_ _|refine Kb ?_|refine Kf ?_ _));exact qa.out) hb);have qw:=Ka (Kn (g:=qd) (o:=.cells #[.int .i64 qq,.int .i64 qr] 30 (0,0)) (by(with_reducible repeat(first|refine Kg ?_ _|refine Kb ?_|refine Kf ?_ _));refine blk_put (cs:=#[.int .i64 qq,.int .i64 0]) ?_ 1 _ rfl;(with_reducible repeat(first|refine Kg ?_ _|refine Kb ?_|refine Kf ?_ _));refine blk_put (cs:=#[.int .i64 0,.int .i64 0]) ?_ 0 _ rfl;(with_reducible repeat(first|refine Kg ?_ _|refine Kb ?_|refine Kf ?_ _));exact qb.out) hb);have qz:=Ka (Ks (by repeat(first|(with_reducible first|exact HB.out|apply Kk|apply Kh|apply Kl|refine Ke ?_ qf.out|refine Ke ?_ qi.out)|exact HB.out)) hb);clear qm;clear qs;clear qa;clear qb;clear HB;have qm:=qt;have qs:=qu;have qa:=qv;have qb:=qw;have HB:=qz;clear qt qu qv qw qz;(try clear hb);(try clear hb2);(try clear hk);(try clear hi);have hnb19:=yl.out;have hnc19:=ya.out;have hcz20_0:w18.cell? ⟨qd,0,none⟩=some (.int .i64 qq):=(blk_cell qb.out 0).trans rfl;have hcz20_1:w18.cell? ⟨qd,1,none⟩=some (.int .i64 qr):=(blk_cell qb.out 1).trans rfl;have hfz20_0:=blk_frozen qb.out 0;have hfz20_1:=blk_frozen qb.out 1;have hcz21_0:w18.cell? ⟨qg,0,none⟩=some (.int .i64 qj):=(blk_cell qa.out 0).trans rfl;have hcz21_1:w18.cell? ⟨qg,1,none⟩=some (.int .i64 qk):=(blk_cell qa.out 1).trans rfl;have hfz21_0:=blk_frozen qa.out 0;have hfz21_1:=blk_frozen qa.out 1)|(go_at_call 13;(with_reducible refine(laws_eqTitleFault.calls qq qr qj qk yj _ A15.out).mono ?_);rintro e w22 ⟨rfl,hb⟩;have qt:=Ka (Kp (by(with_reducible repeat(first|apply Ki|apply Kj|apply Kc));exact qm.out) hb);have qu:=Ka (Kp (by(with_reducible repeat(first|apply Ki|apply Kj|apply Kc));exact qs.out) hb);have qv:=Ka (Kn (g:=qg) (o:=.cells #[.int .i64 qj,.int .i64 qk] 30 (0,0)) (by(with_reducible repeat(first|refine Kg ?_ _|refine Kb ?_|refine Kf ?_ _));exact qa.out) hb);have qw:=Ka (Kn (g:=qd) (o:=.cells #[.int .i64 qq,.int .i64 qr] 30 (0,0)) (by(with_reducible repeat(first|refine Kg ?_ _|refine Kb ?_|refine Kf ?_ _));exact qb.out) hb);have qz:=Ka (Ks (by repeat(first|(with_reducible first|exact HB.out|apply Kk|apply Kh|apply Kl|refine Ke ?_ qf.out|refine Ke ?_ qi.out)|exact HB.out)) hb);clear qm;clear qs;clear qa;clear qb;clear HB;have qm:=qt;have qs:=qu;have qa:=qv;have qb:=qw;have HB:=qz;clear qt qu qv qw qz;(try clear hb);(try clear hb2);(try clear hk);(try clear hi)))
    go_meet
    case rel=>exact⟨_,(!yj),(by first|rfl|(simp;done)|(simp [*];done)),H',⟨by first|omega|exact Nat.le_refl _⟩,⟨by(with_reducible repeat(first|apply Ki|apply Kj|apply Kc));exact Kq qm.out (fun _ hk=>hk.2)⟩,⟨by(with_reducible repeat(first|apply Ki|apply Kj|apply Kc));exact Kq qs.out (fun _ hk=>hk.2)⟩,⟨by(with_reducible repeat(first|refine Kg ?_ _|refine Kb ?_|refine Kf ?_ _));exact qa.out⟩,⟨by(with_reducible repeat(first|refine Kg ?_ _|refine Kb ?_|refine Kf ?_ _));exact qb.out⟩,⟨by repeat(first|(with_reducible first|exact HB.out|apply Kk|apply Kh|apply Kl|refine Ke ?_ qf.out|refine Ke ?_ qi.out)|exact HB.out)⟩⟩
   ·replace c14:=Bool.eq_false_iff.mpr c14
    subst c14
    have H1:(laws_FnExactReadTitles.j0 k a0 qp ql true qj qk)=some r:=by rw [if_neg (show ¬ (false=true) by decide)] at H;exact H
    clear H
    have H:=H1
    clear H1
    have H':=Ka H
    clear H
    obtain⟨Ao23,co23,eo23⟩:=Kd.R_slice qs.out
    subst eo23
    obtain⟨Ao24,co24,eo24⟩:=Kd.R_slice qm.out
    subst eo24
    go_wp2_with (first|((with_reducible refine Kt (f:=10) rfl ?_);refine goesL_ (some 26) rfl rfl Tryd.func10 (by kernel_rfl) rfl #[.slice Ao23 ql.length co23,.slice Ao24 qp.length co24] rfl (by(try simp only [List.map_toArray,List.map_cons,List.map_nil]);first|done|rfl|(simp only [List.length_drop,List.length_take];rfl)) ?_;(with_reducible refine(laws_eqTitleS.calls k _ _ ql _ _ qp false _ ?side1 ?side2 ?side3 ?side4 A13.out).mono ?_);(case side1=>refine(Km (e:=40) (base:=w.heap.size) (ok:=fun k_=>(True∧some k_≠(.slice Ao24 qp.length co24:Value).ownBlock)) (n:=ql.length) (c:=co23) ?_).2.2;exact(by(with_reducible repeat(first|apply Ki|apply Kj|apply Kc));exact(Kq (Ko (p:=⟨qd,1,none⟩) (Ko (p:=⟨qd,0,none⟩) (Kr qs.out qb.out (by decide)) (fun _ hk=>hk.2) (.int .i64 qq)) (fun _ hk=>hk.2) (.int .i64 qr)) (fun _ h_=>h_.1))));(case side2=>exact(Km qs.out).2.1);(case side3=>refine(Km (e:=40) (base:=w.heap.size) (ok:=fun k_=>(True∧some k_≠(.slice Ao23 ql.length co23:Value).ownBlock)) (n:=qp.length) (c:=co24) ?_).2.2;exact(by(with_reducible repeat(first|apply Ki|apply Kj|apply Kc));exact(Kq (Ko (p:=⟨qd,1,none⟩) (Ko (p:=⟨qd,0,none⟩) (Kr qm.out qb.out (by decide)) (fun _ hk=>hk.2) (.int .i64 qq)) (fun _ hk=>hk.2) (.int .i64 qr)) (fun _ h_=>h_.1))));(case side4=>exact(Km qm.out).2.1);rintro e w25 ⟨rfl,hb⟩;refine⟨_,rfl,?_⟩;have qt:=Ka (Kp (by(with_reducible repeat(first|apply Ki|apply Kj|apply Kc));exact(Kq (Ko (p:=⟨qd,1,none⟩) (Ko (p:=⟨qd,0,none⟩) (Kr qm.out qb.out (by decide)) (fun _ hk=>hk.2) (.int .i64 qq)) (fun _ hk=>hk.2) (.int .i64 qr)) (fun _ h_=>h_.1))) hb);have qu:=Ka (Kp (by(with_reducible repeat(first|apply Ki|apply Kj|apply Kc));exact(Kq (Ko (p:=⟨qd,1,none⟩) (Ko (p:=⟨qd,0,none⟩) (Kr qs.out qb.out (by decide)) (fun _ hk=>hk.2) (.int .i64 qq)) (fun _ hk=>hk.2) (.int .i64 qr)) (fun _ h_=>h_.1))) hb);have qv:=Ka (Kn (g:=qg) (o:=.cells #[.int .i64 qj,.int .i64 qk] 30 (0,0)) (by(with_reducible repeat(first|refine Kg ?_ _|refine Kb ?_|refine Kf ?_ _));refine blk_far ?_ ya.out _;(with_reducible repeat(first|refine Kg ?_ _|refine Kb ?_|refine Kf ?_ _));refine blk_far ?_ ya.out _;(with_reducible repeat(first|refine Kg ?_ _|refine Kb ?_|refine Kf ?_ _));exact qa.out) hb);have qw:=Ka (Kn (g:=qd) (o:=.cells #[.int .i64 qq,.int .i64 qr] 30 (0,0)) (by(with_reducible repeat(first|refine Kg ?_ _|refine Kb ?_|refine Kf ?_ _));refine blk_put (cs:=#[.int .i64 qq,.int .i64 0]) ?_ 1 _ rfl;(with_reducible repeat(first|refine Kg ?_ _|refine Kb ?_|refine Kf ?_ _));refine blk_put (cs:=#[.int .i64 0,.int .i64 0]) ?_ 0 _ rfl;(with_reducible repeat(first|refine Kg ?_ _|refine Kb ?_|refine Kf ?_ _));exact qb.out) hb);have qz:=Ka (Ks (by repeat(first|(with_reducible first|exact HB.out|apply Kk|apply Kh|apply Kl|refine Ke ?_ qf.out|refine Ke ?_ qi.out)|exact HB.out)) hb);clear qm;clear qs;clear qa;clear qb;clear HB;have qm:=qt;have qs:=qu;have qa:=qv;have qb:=qw;have HB:=qz;clear qt qu qv qw qz;(try clear hb);(try clear hb2);(try clear hk);(try clear hi)))
    go_meet
    case rel=>exact⟨_,(true),(by first|rfl|(simp;done)|(simp [*];done)),H',⟨by first|omega|exact Nat.le_refl _⟩,⟨by(with_reducible repeat(first|apply Ki|apply Kj|apply Kc));exact Kq qm.out (fun _ hk=>hk.2)⟩,⟨by(with_reducible repeat(first|apply Ki|apply Kj|apply Kc));exact Kq qs.out (fun _ hk=>hk.2)⟩,⟨by(with_reducible repeat(first|refine Kg ?_ _|refine Kb ?_|refine Kf ?_ _));exact qa.out⟩,⟨by(with_reducible repeat(first|refine Kg ?_ _|refine Kb ?_|refine Kf ?_ _));exact qb.out⟩,⟨by repeat(first|(with_reducible first|exact HB.out|apply Kk|apply Kh|apply Kl|refine Ke ?_ qf.out|refine Ke ?_ qi.out)|exact HB.out)⟩⟩
  case rest=>
   clear HC5
   try clear c1
   try clear c2
   try clear c2b0
   try clear c2b1
   try clear p2
   try clear c4
   try clear c10
   try clear c11
   try clear c12
   try clear c14
   try clear c19
   try clear hcz12_0
   try clear hcz12_1
   try clear hcz20_0
   try clear hcz20_1
   try clear hcz21_0
   try clear hcz21_1
   try clear hcz8_0
   try clear hcz8_1
   try clear hfz12_0
   try clear hfz12_1
   try clear hfz20_0
   try clear hfz20_1
   try clear hfz21_0
   try clear hfz21_1
   try clear hfz8_0
   try clear hfz8_1
   obtain⟨kq,x33_4,rfl,HA,HJ4,qn,qc,qa,qb,HB⟩:=hcut
   cases kq with
   | zero => exact absurd HA.out (by simp [laws_FnExactReadTitles.j0])
   | succ kj4 =>
    have H:=HA.out
    clear HA
    simp only [laws_FnExactReadTitles.j0] at H
    by_cases c26:x33_4=true
    ·subst c26
     have H1:(some false)=some r:=by rw [if_pos rfl] at H;exact H
     clear H
     have H:=H1
     clear H1
     obtain rfl:=Option.some.inj H
     go_wp2
     go_ret
     exact⟨by first|rfl|(simp [errW_none,errW_some] <;> rfl)|(simp [*,errW_none,errW_some] <;> rfl),by repeat(first|(with_reducible first|exact HB.out|apply Kk|apply Kh|apply Kl|refine Ke ?_ qf.out|refine Ke ?_ qi.out)|exact HB.out)⟩
    ·replace c26:=Bool.eq_false_iff.mpr c26
     subst c26
     have H1:((laws_markTitleS.f kj4 ql 1).bind fun bt266=>((laws_heldTitleS.f kj4 bt266.2 1).bind fun yf=>(if yf < 0 then (some false) else (if yf=bt266.1 then ((impl_ReadTitles.f kj4 a0).bind fun bt269=>((laws_eqTitleS.f kj4 bt269.1 qp).bind fun yn=>(if yn=true then ((laws_eqTitleFault.f bt269.2.1 bt269.2.2 qj qk).bind fun yi=>(laws_FnExactReadTitles.j1 kj4 bt266.2 bt266.1 (!yi))) else (laws_FnExactReadTitles.j1 kj4 bt266.2 bt266.1 true)))) else (some false)))))=some r:=by rw [if_neg (show ¬ (false=true) by decide)] at H;exact H
     clear H
     have H:=H1
     clear H1
     replace H:=Option.bind_eq_some_iff.mp H
     obtain⟨⟨qx,qo⟩,A270,H⟩:=H
     replace H:((laws_heldTitleS.f kj4 qo 1).bind fun yf=>(if yf < 0 then (some false) else (if yf=qx then ((impl_ReadTitles.f kj4 a0).bind fun bt269=>((laws_eqTitleS.f kj4 bt269.1 qp).bind fun yn=>(if yn=true then ((laws_eqTitleFault.f bt269.2.1 bt269.2.2 qj qk).bind fun yi=>(laws_FnExactReadTitles.j1 kj4 qo qx (!yi))) else (laws_FnExactReadTitles.j1 kj4 qo qx true)))) else (some false))))=some r:=H
     have A27:=Ka A270
     clear A270
     replace H:=Option.bind_eq_some_iff.mp H
     obtain⟨yf,A280,H⟩:=H
     replace H:(if yf < 0 then (some false) else (if yf=qx then ((impl_ReadTitles.f kj4 a0).bind fun bt269=>((laws_eqTitleS.f kj4 bt269.1 qp).bind fun yn=>(if yn=true then ((laws_eqTitleFault.f bt269.2.1 bt269.2.2 qj qk).bind fun yi=>(laws_FnExactReadTitles.j1 kj4 qo qx (!yi))) else (laws_FnExactReadTitles.j1 kj4 qo qx true)))) else (some false)))=some r:=H
     have A28:=Ka A280
     clear A280
     by_cases c29:yf < 0
     ·rw [if_pos c29] at H
      have c29b0:decide (yf < 0)=true:=decide_eq_true c29
      clear c29
      obtain rfl:=Option.some.inj H
      obtain⟨Ao30,co30,eo30⟩:=Kd.R_slice qc.out
      subst eo30
      go_wp2_with (first|((with_reducible refine Kt (f:=14) rfl ?_);refine goesL_ (some 36) rfl rfl Tryd.func14 (by kernel_rfl) rfl #[.slice Ao30 ql.length co30,.int .i64 1] rfl (by(try simp only [List.map_toArray,List.map_cons,List.map_nil]);first|done|rfl|(simp only [List.length_drop,List.length_take];rfl)) ?_;(with_reducible refine(laws_markTitleS.calls kj4 (fun k_=>some k_=(.slice Ao30 ql.length co30:Value).ownBlock) (.slice Ao30 ql.length co30) ql 1 qx qo w _ ?side1 ?side2 A27.out).mono ?_);(case side1=>repeat(first|(with_reducible first|exact HB.out|apply Kk|apply Kh|apply Kl|refine Ke ?_ qf.out|refine Ke ?_ qi.out)|exact HB.out));(case side2=>exact Kd.R_tight rfl qc.out);rintro e w31 ⟨rfl,hy0,hb,hkp⟩;refine⟨_,rfl,?_⟩;have qt:=Ka (Kq (ok':=fun k_=>some k_≠(.slice Ao30 ql.length co30:Value).ownBlock) (Kd.R_keptB (qn.out) hkp (fun k_ hk_ hs_=>(hk_) hs_)) (fun k_ hk_=>hk_.1));have qu:=Ka (Kd.R_reok rfl hy0 (fun k_ e_=>qc.out.1 k_ e_));have qv:=Ka (blk_kept (by(with_reducible repeat(first|refine Kg ?_ _|refine Kb ?_|refine Kf ?_ _));exact qa.out) hkp (fun hs_=>(fun e_=>(Kd.R_ne qc.out qa.out (by decide)) e_) hs_));have qw:=Ka (blk_kept (by(with_reducible repeat(first|refine Kg ?_ _|refine Kb ?_|refine Kf ?_ _));exact qb.out) hkp (fun hs_=>(fun e_=>(Kd.R_ne qc.out qb.out (by decide)) e_) hs_));have qz:=Ka (hb);clear qn;clear qc;clear qa;clear qb;clear HB;have qn:=qt;have qc:=qu;have qa:=qv;have qb:=qw;have HB:=qz;clear qt qu qv qw qz;(try clear hb);(try clear hkp);(try clear hy0))|((with_reducible refine Kt (f:=15) rfl ?_);refine goesL_ (some 39) rfl rfl Tryd.func15 (by kernel_rfl) rfl #[.slice Ao30 qo.length co30,.int .i64 1] rfl (by(try simp only [List.map_toArray,List.map_cons,List.map_nil]);first|done|(rw [show qo.length=ql.length from(Km qc.out).1.symm] <;> rfl)|rfl|(simp only [List.length_drop,List.length_take];rfl)) ?_;(with_reducible refine(laws_heldTitleS.calls kj4 _ _ qo 1 yf _ ?side1 ?side2 A28.out).mono ?_);(case side1=>repeat(first|exact(Km qc.out).2.2|(with_reducible refine Kd.C_alloc ?_ _)|(with_reducible refine Kd.C_drewN ?_ _)|(with_reducible refine Kd.C_drew ?_)));(case side2=>rw [show qo.length=ql.length from(Km qc.out).1.symm];exact(Km qc.out).2.1);rintro e w32 ⟨rfl,hb⟩;refine⟨_,rfl,?_⟩;have qt:=Ka (Kp (by(with_reducible repeat(first|apply Ki|apply Kj|apply Kc));exact qn.out) hb);have qu:=Ka (Kp (by(with_reducible repeat(first|apply Ki|apply Kj|apply Kc));exact qc.out) hb);have qv:=Ka (Kn (g:=qg) (o:=.cells #[.int .i64 qj,.int .i64 qk] 30 (0,0)) (by(with_reducible repeat(first|refine Kg ?_ _|refine Kb ?_|refine Kf ?_ _));exact qa.out) hb);have qw:=Ka (Kn (g:=qd) (o:=.cells #[.int .i64 qq,.int .i64 qr] 30 (0,0)) (by(with_reducible repeat(first|refine Kg ?_ _|refine Kb ?_|refine Kf ?_ _));exact qb.out) hb);have qz:=Ka (Ks (by repeat(first|(with_reducible first|exact HB.out|apply Kk|apply Kh|apply Kl|refine Ke ?_ qf.out|refine Ke ?_ qi.out)|exact HB.out)) hb);clear qn;clear qc;clear qa;clear qb;clear HB;have qn:=qt;have qc:=qu;have qa:=qv;have qb:=qw;have HB:=qz;clear qt qu qv qw qz;(try clear hb);(try clear hb2);(try clear hk);(try clear hi)))
      go_ret
      exact⟨by first|rfl|(simp [errW_none,errW_some] <;> rfl)|(simp [*,errW_none,errW_some] <;> rfl),by repeat(first|(with_reducible first|exact HB.out|apply Kk|apply Kh|apply Kl|refine Ke ?_ qf.out|refine Ke ?_ qi.out)|exact HB.out)⟩
     ·rw [if_neg c29] at H
      have c29b0:decide (yf < 0)=false:=decide_eq_false c29
      clear c29
      by_cases c33:yf=qx
      ·rw [if_pos c33] at H
       have c33b0:(yf == qx)=true:=beq_iff_eq.mpr c33
       have c33b1:(yf != qx)=false:=bne_eq_false_iff_eq.mpr c33
       clear c33
       replace H:=Option.bind_eq_some_iff.mp H
       obtain⟨⟨yq,yb,ye⟩,A340,H⟩:=H
       replace H:((laws_eqTitleS.f kj4 yq qp).bind fun yn=>(if yn=true then ((laws_eqTitleFault.f yb ye qj qk).bind fun yi=>(laws_FnExactReadTitles.j1 kj4 qo qx (!yi))) else (laws_FnExactReadTitles.j1 kj4 qo qx true)))=some r:=H
       have A34:=Ka A340
       clear A340
       have HC35:=Ka H
       clear H
       obtain⟨yk,ym,eo36⟩:=Kd.R_slice qc.out
       subst eo36
       go_upto_region 16 with (first|((with_reducible refine Kt (f:=14) rfl ?_);refine goesL_ (some 36) rfl rfl Tryd.func14 (by kernel_rfl) rfl #[.slice yk ql.length ym,.int .i64 1] rfl (by(try simp only [List.map_toArray,List.map_cons,List.map_nil]);first|done|rfl|(simp only [List.length_drop,List.length_take];rfl)) ?_;(with_reducible refine(laws_markTitleS.calls kj4 (fun k_=>some k_=(.slice yk ql.length ym:Value).ownBlock) (.slice yk ql.length ym) ql 1 qx qo w _ ?side1 ?side2 A27.out).mono ?_);(case side1=>repeat(first|(with_reducible first|exact HB.out|apply Kk|apply Kh|apply Kl|refine Ke ?_ qf.out|refine Ke ?_ qi.out)|exact HB.out));(case side2=>exact Kd.R_tight rfl qc.out);rintro e w37 ⟨rfl,hy0,hb,hkp⟩;refine⟨_,rfl,?_⟩;have qt:=Ka (Kq (ok':=fun k_=>some k_≠(.slice yk ql.length ym:Value).ownBlock) (Kd.R_keptB (qn.out) hkp (fun k_ hk_ hs_=>(hk_) hs_)) (fun k_ hk_=>hk_.1));have qu:=Ka (Kd.R_reok rfl hy0 (fun k_ e_=>qc.out.1 k_ e_));have qv:=Ka (blk_kept (by(with_reducible repeat(first|refine Kg ?_ _|refine Kb ?_|refine Kf ?_ _));exact qa.out) hkp (fun hs_=>(fun e_=>(Kd.R_ne qc.out qa.out (by decide)) e_) hs_));have qw:=Ka (blk_kept (by(with_reducible repeat(first|refine Kg ?_ _|refine Kb ?_|refine Kf ?_ _));exact qb.out) hkp (fun hs_=>(fun e_=>(Kd.R_ne qc.out qb.out (by decide)) e_) hs_));have qz:=Ka (hb);clear qn;clear qc;clear qa;clear qb;clear HB;have qn:=qt;have qc:=qu;have qa:=qv;have qb:=qw;have HB:=qz;clear qt qu qv qw qz;(try clear hb);(try clear hkp);(try clear hy0))|((with_reducible refine Kt (f:=15) rfl ?_);refine goesL_ (some 39) rfl rfl Tryd.func15 (by kernel_rfl) rfl #[.slice yk qo.length ym,.int .i64 1] rfl (by(try simp only [List.map_toArray,List.map_cons,List.map_nil]);first|done|(rw [show qo.length=ql.length from(Km qc.out).1.symm] <;> rfl)|rfl|(simp only [List.length_drop,List.length_take];rfl)) ?_;(with_reducible refine(laws_heldTitleS.calls kj4 _ _ qo 1 yf _ ?side1 ?side2 A28.out).mono ?_);(case side1=>repeat(first|exact(Km qc.out).2.2|(with_reducible refine Kd.C_alloc ?_ _)|(with_reducible refine Kd.C_drewN ?_ _)|(with_reducible refine Kd.C_drew ?_)));(case side2=>rw [show qo.length=ql.length from(Km qc.out).1.symm];exact(Km qc.out).2.1);rintro e w38 ⟨rfl,hb⟩;refine⟨_,rfl,?_⟩;have qt:=Ka (Kp (by(with_reducible repeat(first|apply Ki|apply Kj|apply Kc));exact qn.out) hb);have qu:=Ka (Kp (by(with_reducible repeat(first|apply Ki|apply Kj|apply Kc));exact qc.out) hb);have qv:=Ka (Kn (g:=qg) (o:=.cells #[.int .i64 qj,.int .i64 qk] 30 (0,0)) (by(with_reducible repeat(first|refine Kg ?_ _|refine Kb ?_|refine Kf ?_ _));exact qa.out) hb);have qw:=Ka (Kn (g:=qd) (o:=.cells #[.int .i64 qq,.int .i64 qr] 30 (0,0)) (by(with_reducible repeat(first|refine Kg ?_ _|refine Kb ?_|refine Kf ?_ _));exact qb.out) hb);have qz:=Ka (Ks (by repeat(first|(with_reducible first|exact HB.out|apply Kk|apply Kh|apply Kl|refine Ke ?_ qf.out|refine Ke ?_ qi.out)|exact HB.out)) hb);clear qn;clear qc;clear qa;clear qb;clear HB;have qn:=qt;have qc:=qu;have qa:=qv;have qb:=qw;have HB:=qz;clear qt qu qv qw qz;(try clear hb);(try clear hb2);(try clear hk);(try clear hi))|((with_reducible refine Kt (f:=12) rfl ?_);refine goesL_ (some 47) rfl rfl Tryd.func12 (by kernel_rfl) rfl #[.string a0] rfl (by(try simp only [List.map_toArray,List.map_cons,List.map_nil]);first|done|rfl|(simp only [List.length_drop,List.length_take];rfl)) ?_;(with_reducible refine(impl_ReadTitles.calls kj4 a0 yq yb ye _ (by first|exact HGL.out|((repeat(with_reducible refine Glob.drewN ?_));exact HGL.out)|exact Glob.below HGL.out (by repeat(first|(with_reducible first|exact HB.out|apply Kk|apply Kh|apply Kl|refine Ke ?_ qf.out|refine Ke ?_ qi.out|refine Ke ?_ yg.out)|exact HB.out))) A34.out).mono ?_);rintro e w39 ⟨v270,rfl,ho0,hb⟩;refine⟨_,rfl,?_⟩;have qt:=Ka (Kd.R_elder' (by(with_reducible repeat(first|apply Ki|apply Kj|apply Kc));exact qn.out) (Kd.R_base ho0) hb);have qu:=Ka (Kd.R_elder' (by(with_reducible repeat(first|apply Ki|apply Kj|apply Kc));exact qc.out) (Kd.R_base ho0) hb);have qv:=Ka (Kd.R_lower (Kd.R_new' (Kd.R_new' ho0 (Kd.R_lt (by(with_reducible repeat(first|apply Ki|apply Kj|apply Kc));exact qn.out))) (Kd.R_lt (by(with_reducible repeat(first|apply Ki|apply Kj|apply Kc));exact qc.out))) (below_size (by repeat(first|(with_reducible first|exact HB.out|apply Kk|apply Kh|apply Kl|refine Ke ?_ qf.out|refine Ke ?_ qi.out)|exact HB.out))));have qw:=Ka (Kn (g:=qg) (o:=.cells #[.int .i64 qj,.int .i64 qk] 30 (0,0)) (by(with_reducible repeat(first|refine Kg ?_ _|refine Kb ?_|refine Kf ?_ _));exact qa.out) hb);have qz:=Ka (Kn (g:=qd) (o:=.cells #[.int .i64 qq,.int .i64 qr] 30 (0,0)) (by(with_reducible repeat(first|refine Kg ?_ _|refine Kb ?_|refine Kf ?_ _));exact qb.out) hb);have n5_:=Ka (Ks (by repeat(first|(with_reducible first|exact HB.out|apply Kk|apply Kh|apply Kl|refine Ke ?_ qf.out|refine Ke ?_ qi.out)|exact HB.out)) hb);clear qn;clear qc;clear qa;clear qb;clear HB;have qn:=qt;have qc:=qu;have qy:=qv;have qa:=qw;have qb:=qz;have HB:=n5_;clear qt qu qv qw qz n5_;(try clear hb);(try clear hb2);(try clear hk);(try clear hi);(try clear ho0))|((with_reducible refine gate_dst (N:=10) rfl ?_);refine box_event ?hg (N:=10) ?hd (cs:=#[.int .i64 0,.int .i64 0]) (t:=30) ?hr ?_;(case hd=>rfl);(case hg=>rfl);(case hr=>first|(go_simp;done)|(go_simp;rfl));intro qh hg w40 hbox hb;have qt:=Ka (Kp (by(with_reducible repeat(first|apply Ki|apply Kj|apply Kc));exact qn.out) hb);have qu:=Ka (Kp (by(with_reducible repeat(first|apply Ki|apply Kj|apply Kc));exact qc.out) hb);have qv:=Ka (Kp (by(with_reducible repeat(first|apply Ki|apply Kj|apply Kc));exact qy.out) hb);have qw:=Ka (Kn (g:=qg) (o:=.cells #[.int .i64 qj,.int .i64 qk] 30 (0,0)) (by(with_reducible repeat(first|refine Kg ?_ _|refine Kb ?_|refine Kf ?_ _));exact qa.out) hb);have qz:=Ka (Kn (g:=qd) (o:=.cells #[.int .i64 qq,.int .i64 qr] 30 (0,0)) (by(with_reducible repeat(first|refine Kg ?_ _|refine Kb ?_|refine Kf ?_ _));exact qb.out) hb);have n5_:=Ka (Ks (by repeat(first|(with_reducible first|exact HB.out|apply Kk|apply Kh|apply Kl|refine Ke ?_ qf.out|refine Ke ?_ qi.out)|exact HB.out)) hb);have n6_:=Ka (hbox);have n7_:=Ka ((by rw [hg];exact(below_size (by repeat(first|(with_reducible first|exact HB.out|apply Kk|apply Kh|apply Kl|refine Ke ?_ qf.out|refine Ke ?_ qi.out)|exact HB.out))):w.heap.size≤qh));have n8_:=Ka ((by rw [hg];exact(below_size (by repeat(first|(with_reducible first|exact HB.out|apply Kk|apply Kh|apply Kl|refine Ke ?_ qf.out|refine Ke ?_ qi.out)|exact HB.out))):w.heap.size≤qh));have n9_:=Ka ((by rw [hg];exact Nat.ne_of_lt (blk_lt (g:=qg) (o:=.cells #[.int .i64 qj,.int .i64 qk] 30 (0,0)) (by(with_reducible repeat(first|refine Kg ?_ _|refine Kb ?_|refine Kf ?_ _));exact qa.out)):qg≠qh));have n10_:=Ka ((by rw [hg];exact Nat.ne_of_gt (blk_lt (g:=qg) (o:=.cells #[.int .i64 qj,.int .i64 qk] 30 (0,0)) (by(with_reducible repeat(first|refine Kg ?_ _|refine Kb ?_|refine Kf ?_ _));exact qa.out)):qh≠qg));have n11_:=Ka ((by rw [hg];exact Nat.ne_of_lt (blk_lt (g:=qd) (o:=.cells #[.int .i64 qq,.int .i64 qr] 30 (0,0)) (by(with_reducible repeat(first|refine Kg ?_ _|refine Kb ?_|refine Kf ?_ _));exact qb.out)):qd≠qh));have n12_:=Ka ((by rw [hg];exact Nat.ne_of_gt (blk_lt (g:=qd) (o:=.cells #[.int .i64 qq,.int .i64 qr] 30 (0,0)) (by(with_reducible repeat(first|refine Kg ?_ _|refine Kb ?_|refine Kf ?_ _));exact qb.out)):qh≠qd));clear qn;clear qc;clear qy;clear qa;clear qb;clear HB;have qn:=qt;have qc:=qu;have qy:=qv;have qa:=qw;have qb:=qz;have HB:=n5_;have qe:=n6_;have GW274:=n7_;have yg:=n8_;have yc:=n9_;have yr:=n10_;have yd:=n11_;have ys:=n12_;clear qt qu qv qw qz n5_ n6_ n7_ n8_ n9_ n10_ n11_ n12_;clear hb hbox hg;have hnb41:=yr.out;have hnc41:=yc.out;have hnb42:=ys.out;have hnc42:=yd.out;have hcz43_0:w40.cell? ⟨qh,0,none⟩=some (.int .i64 0):=(blk_cell qe.out 0).trans rfl;have hcz43_1:w40.cell? ⟨qh,1,none⟩=some (.int .i64 0):=(blk_cell qe.out 1).trans rfl;have hfz43_0:=blk_frozen qe.out 0;have hfz43_1:=blk_frozen qe.out 1))
       (try simp only [Act.put,List.setIfInBounds_toArray,List.set_cons_zero,List.set_cons_succ])
       go_cut [59] (fun v59 wc=>∃ (kq:Nat) (x59_34:Bool),v59=.bool x59_34∧Aside0 (laws_FnExactReadTitles.j1 kq qo qx x59_34=some r)∧Aside0 (kq≤kj4)∧Aside0 (Kd.R k40 40 wc w.heap.size (fun _=>True) (.slice yk ql.length ym) qo)∧Aside0 (wc.heap[qg]? = some (.cells #[.int .i64 qj,.int .i64 qk] 30 (0,0)))∧Aside0 (wc.heap[qd]? = some (.cells #[.int .i64 qq,.int .i64 qr] 30 (0,0)))∧Aside0 (wc.heap[qh]? = some (.cells #[.int .i64 yb,.int .i64 ye] 30 (0,0)))∧Aside0 (Below w.heap.size w wc))
       case first=>
        have H:=HC35.out
        clear HC35
        replace H:=Option.bind_eq_some_iff.mp H
        obtain⟨yn,A440,H⟩:=H
        replace H:(if yn=true then ((laws_eqTitleFault.f yb ye qj qk).bind fun yi=>(laws_FnExactReadTitles.j1 kj4 qo qx (!yi))) else (laws_FnExactReadTitles.j1 kj4 qo qx true))=some r:=H
        have A44:=Ka A440
        clear A440
        by_cases c45:yn=true
        ·subst c45
         have H1:((laws_eqTitleFault.f yb ye qj qk).bind fun yi=>(laws_FnExactReadTitles.j1 kj4 qo qx (!yi)))=some r:=by rw [if_pos rfl] at H;exact H
         clear H
         have H:=H1
         clear H1
         replace H:=Option.bind_eq_some_iff.mp H
         obtain⟨yi,A460,H⟩:=H
         replace H:(laws_FnExactReadTitles.j1 kj4 qo qx (!yi))=some r:=H
         have A46:=Ka A460
         clear A460
         have H':=Ka H
         clear H
         obtain⟨Ao47,co47,eo47⟩:=Kd.R_slice qy.out
         subst eo47
         obtain⟨Ao48,co48,eo48⟩:=Kd.R_slice qn.out
         subst eo48
         go_wp2_with (first|((with_reducible refine Kt (f:=10) rfl ?_);refine goesL_ (some 52) rfl rfl Tryd.func10 (by kernel_rfl) rfl #[.slice Ao47 yq.length co47,.slice Ao48 qp.length co48] rfl (by(try simp only [List.map_toArray,List.map_cons,List.map_nil]);first|done|rfl|(simp only [List.length_drop,List.length_take];rfl)) ?_;(with_reducible refine(laws_eqTitleS.calls kj4 _ _ yq _ _ qp true _ ?side1 ?side2 ?side3 ?side4 A44.out).mono ?_);(case side1=>refine(Km (e:=40) (base:=w.heap.size) (ok:=fun k_=>((True∧some k_≠(.slice Ao48 qp.length co48:Value).ownBlock)∧some k_≠(.slice yk ql.length ym:Value).ownBlock)) (n:=yq.length) (c:=co47) ?_).2.2;exact(by(with_reducible repeat(first|apply Ki|apply Kj|apply Kc));exact(Kq (Ko (p:=⟨qh,1,none⟩) (Ko (p:=⟨qh,0,none⟩) (Kr qy.out qe.out (by decide)) (fun _ hk=>hk.2) (.int .i64 yb)) (fun _ hk=>hk.2) (.int .i64 ye)) (fun _ h_=>h_.1))));(case side2=>exact(Km qy.out).2.1);(case side3=>refine(Km (e:=40) (base:=w.heap.size) (ok:=fun k_=>(some k_≠(.slice yk ql.length ym:Value).ownBlock∧some k_≠(.slice Ao47 yq.length co47:Value).ownBlock)) (n:=qp.length) (c:=co48) ?_).2.2;exact(by(with_reducible repeat(first|apply Ki|apply Kj|apply Kc));exact(Kq (Ko (p:=⟨qh,1,none⟩) (Ko (p:=⟨qh,0,none⟩) (Kr qn.out qe.out (by decide)) (fun _ hk=>hk.2) (.int .i64 yb)) (fun _ hk=>hk.2) (.int .i64 ye)) (fun _ h_=>h_.1))));(case side4=>exact(Km qn.out).2.1);rintro e w49 ⟨rfl,hb⟩;refine⟨_,rfl,?_⟩;have qt:=Ka (Kp (by(with_reducible repeat(first|apply Ki|apply Kj|apply Kc));exact(Kq (Ko (p:=⟨qh,1,none⟩) (Ko (p:=⟨qh,0,none⟩) (Kr qn.out qe.out (by decide)) (fun _ hk=>hk.2) (.int .i64 yb)) (fun _ hk=>hk.2) (.int .i64 ye)) (fun _ h_=>h_.1))) hb);have qu:=Ka (Kp (by(with_reducible repeat(first|apply Ki|apply Kj|apply Kc));exact(Kq (Ko (p:=⟨qh,1,none⟩) (Ko (p:=⟨qh,0,none⟩) (Kr qc.out qe.out (by decide)) (fun _ hk=>hk.2) (.int .i64 yb)) (fun _ hk=>hk.2) (.int .i64 ye)) (fun _ h_=>h_.1))) hb);have qv:=Ka (Kp (by(with_reducible repeat(first|apply Ki|apply Kj|apply Kc));exact(Kq (Ko (p:=⟨qh,1,none⟩) (Ko (p:=⟨qh,0,none⟩) (Kr qy.out qe.out (by decide)) (fun _ hk=>hk.2) (.int .i64 yb)) (fun _ hk=>hk.2) (.int .i64 ye)) (fun _ h_=>h_.1))) hb);have qw:=Ka (Kn (g:=qg) (o:=.cells #[.int .i64 qj,.int .i64 qk] 30 (0,0)) (by(with_reducible repeat(first|refine Kg ?_ _|refine Kb ?_|refine Kf ?_ _));refine blk_far ?_ yc.out _;(with_reducible repeat(first|refine Kg ?_ _|refine Kb ?_|refine Kf ?_ _));refine blk_far ?_ yc.out _;(with_reducible repeat(first|refine Kg ?_ _|refine Kb ?_|refine Kf ?_ _));exact qa.out) hb);have qz:=Ka (Kn (g:=qd) (o:=.cells #[.int .i64 qq,.int .i64 qr] 30 (0,0)) (by(with_reducible repeat(first|refine Kg ?_ _|refine Kb ?_|refine Kf ?_ _));refine blk_far ?_ yd.out _;(with_reducible repeat(first|refine Kg ?_ _|refine Kb ?_|refine Kf ?_ _));refine blk_far ?_ yd.out _;(with_reducible repeat(first|refine Kg ?_ _|refine Kb ?_|refine Kf ?_ _));exact qb.out) hb);have n5_:=Ka (Kn (g:=qh) (o:=.cells #[.int .i64 yb,.int .i64 ye] 30 (0,0)) (by(with_reducible repeat(first|refine Kg ?_ _|refine Kb ?_|refine Kf ?_ _));refine blk_put (cs:=#[.int .i64 yb,.int .i64 0]) ?_ 1 _ rfl;(with_reducible repeat(first|refine Kg ?_ _|refine Kb ?_|refine Kf ?_ _));refine blk_put (cs:=#[.int .i64 0,.int .i64 0]) ?_ 0 _ rfl;(with_reducible repeat(first|refine Kg ?_ _|refine Kb ?_|refine Kf ?_ _));exact qe.out) hb);have n6_:=Ka (Ks (by repeat(first|(with_reducible first|exact HB.out|apply Kk|apply Kh|apply Kl|refine Ke ?_ qf.out|refine Ke ?_ qi.out|refine Ke ?_ yg.out)|exact HB.out)) hb);clear qn;clear qc;clear qy;clear qa;clear qb;clear qe;clear HB;have qn:=qt;have qc:=qu;have qy:=qv;have qa:=qw;have qb:=qz;have qe:=n5_;have HB:=n6_;clear qt qu qv qw qz n5_ n6_;(try clear hb);(try clear hb2);(try clear hk);(try clear hi);have hnb50:=yr.out;have hnc50:=yc.out;have hnb51:=ys.out;have hnc51:=yd.out;have hcz52_0:w49.cell? ⟨qh,0,none⟩=some (.int .i64 yb):=(blk_cell qe.out 0).trans rfl;have hcz52_1:w49.cell? ⟨qh,1,none⟩=some (.int .i64 ye):=(blk_cell qe.out 1).trans rfl;have hfz52_0:=blk_frozen qe.out 0;have hfz52_1:=blk_frozen qe.out 1;have hnb53:=ya.out;have hnc53:=yl.out;have hcz54_0:w49.cell? ⟨qg,0,none⟩=some (.int .i64 qj):=(blk_cell qa.out 0).trans rfl;have hcz54_1:w49.cell? ⟨qg,1,none⟩=some (.int .i64 qk):=(blk_cell qa.out 1).trans rfl;have hfz54_0:=blk_frozen qa.out 0;have hfz54_1:=blk_frozen qa.out 1)|(go_at_call 13;(with_reducible refine(laws_eqTitleFault.calls yb ye qj qk yi _ A46.out).mono ?_);rintro e w55 ⟨rfl,hb⟩;have qt:=Ka (Kp (by(with_reducible repeat(first|apply Ki|apply Kj|apply Kc));exact qn.out) hb);have qu:=Ka (Kp (by(with_reducible repeat(first|apply Ki|apply Kj|apply Kc));exact qc.out) hb);have qv:=Ka (Kp (by(with_reducible repeat(first|apply Ki|apply Kj|apply Kc));exact qy.out) hb);have qw:=Ka (Kn (g:=qg) (o:=.cells #[.int .i64 qj,.int .i64 qk] 30 (0,0)) (by(with_reducible repeat(first|refine Kg ?_ _|refine Kb ?_|refine Kf ?_ _));exact qa.out) hb);have qz:=Ka (Kn (g:=qd) (o:=.cells #[.int .i64 qq,.int .i64 qr] 30 (0,0)) (by(with_reducible repeat(first|refine Kg ?_ _|refine Kb ?_|refine Kf ?_ _));exact qb.out) hb);have n5_:=Ka (Kn (g:=qh) (o:=.cells #[.int .i64 yb,.int .i64 ye] 30 (0,0)) (by(with_reducible repeat(first|refine Kg ?_ _|refine Kb ?_|refine Kf ?_ _));exact qe.out) hb);have n6_:=Ka (Ks (by repeat(first|(with_reducible first|exact HB.out|apply Kk|apply Kh|apply Kl|refine Ke ?_ qf.out|refine Ke ?_ qi.out|refine Ke ?_ yg.out)|exact HB.out)) hb);clear qn;clear qc;clear qy;clear qa;clear qb;clear qe;clear HB;have qn:=qt;have qc:=qu;have qy:=qv;have qa:=qw;have qb:=qz;have qe:=n5_;have HB:=n6_;clear qt qu qv qw qz n5_ n6_;(try clear hb);(try clear hb2);(try clear hk);(try clear hi)))
         go_meet
         case rel=>exact⟨_,(!yi),(by first|rfl|(simp;done)|(simp [*];done)),H',⟨by have:=HJ4.out;first|omega|exact Nat.le_refl _⟩,⟨by(with_reducible repeat(first|apply Ki|apply Kj|apply Kc));exact Kq qc.out (fun _ hk=>trivial)⟩,⟨by(with_reducible repeat(first|refine Kg ?_ _|refine Kb ?_|refine Kf ?_ _));exact qa.out⟩,⟨by(with_reducible repeat(first|refine Kg ?_ _|refine Kb ?_|refine Kf ?_ _));exact qb.out⟩,⟨by(with_reducible repeat(first|refine Kg ?_ _|refine Kb ?_|refine Kf ?_ _));exact qe.out⟩,⟨by repeat(first|(with_reducible first|exact HB.out|apply Kk|apply Kh|apply Kl|refine Ke ?_ qf.out|refine Ke ?_ qi.out|refine Ke ?_ yg.out)|exact HB.out)⟩⟩
        ·replace c45:=Bool.eq_false_iff.mpr c45
         subst c45
         have H1:(laws_FnExactReadTitles.j1 kj4 qo qx true)=some r:=by rw [if_neg (show ¬ (false=true) by decide)] at H;exact H
         clear H
         have H:=H1
         clear H1
         have H':=Ka H
         clear H
         obtain⟨Ao56,co56,eo56⟩:=Kd.R_slice qy.out
         subst eo56
         obtain⟨Ao57,co57,eo57⟩:=Kd.R_slice qn.out
         subst eo57
         go_wp2_with (first|((with_reducible refine Kt (f:=10) rfl ?_);refine goesL_ (some 52) rfl rfl Tryd.func10 (by kernel_rfl) rfl #[.slice Ao56 yq.length co56,.slice Ao57 qp.length co57] rfl (by(try simp only [List.map_toArray,List.map_cons,List.map_nil]);first|done|rfl|(simp only [List.length_drop,List.length_take];rfl)) ?_;(with_reducible refine(laws_eqTitleS.calls kj4 _ _ yq _ _ qp false _ ?side1 ?side2 ?side3 ?side4 A44.out).mono ?_);(case side1=>refine(Km (e:=40) (base:=w.heap.size) (ok:=fun k_=>((True∧some k_≠(.slice Ao57 qp.length co57:Value).ownBlock)∧some k_≠(.slice yk ql.length ym:Value).ownBlock)) (n:=yq.length) (c:=co56) ?_).2.2;exact(by(with_reducible repeat(first|apply Ki|apply Kj|apply Kc));exact(Kq (Ko (p:=⟨qh,1,none⟩) (Ko (p:=⟨qh,0,none⟩) (Kr qy.out qe.out (by decide)) (fun _ hk=>hk.2) (.int .i64 yb)) (fun _ hk=>hk.2) (.int .i64 ye)) (fun _ h_=>h_.1))));(case side2=>exact(Km qy.out).2.1);(case side3=>refine(Km (e:=40) (base:=w.heap.size) (ok:=fun k_=>(some k_≠(.slice yk ql.length ym:Value).ownBlock∧some k_≠(.slice Ao56 yq.length co56:Value).ownBlock)) (n:=qp.length) (c:=co57) ?_).2.2;exact(by(with_reducible repeat(first|apply Ki|apply Kj|apply Kc));exact(Kq (Ko (p:=⟨qh,1,none⟩) (Ko (p:=⟨qh,0,none⟩) (Kr qn.out qe.out (by decide)) (fun _ hk=>hk.2) (.int .i64 yb)) (fun _ hk=>hk.2) (.int .i64 ye)) (fun _ h_=>h_.1))));(case side4=>exact(Km qn.out).2.1);rintro e w58 ⟨rfl,hb⟩;refine⟨_,rfl,?_⟩;have qt:=Ka (Kp (by(with_reducible repeat(first|apply Ki|apply Kj|apply Kc));exact(Kq (Ko (p:=⟨qh,1,none⟩) (Ko (p:=⟨qh,0,none⟩) (Kr qn.out qe.out (by decide)) (fun _ hk=>hk.2) (.int .i64 yb)) (fun _ hk=>hk.2) (.int .i64 ye)) (fun _ h_=>h_.1))) hb);have qu:=Ka (Kp (by(with_reducible repeat(first|apply Ki|apply Kj|apply Kc));exact(Kq (Ko (p:=⟨qh,1,none⟩) (Ko (p:=⟨qh,0,none⟩) (Kr qc.out qe.out (by decide)) (fun _ hk=>hk.2) (.int .i64 yb)) (fun _ hk=>hk.2) (.int .i64 ye)) (fun _ h_=>h_.1))) hb);have qv:=Ka (Kp (by(with_reducible repeat(first|apply Ki|apply Kj|apply Kc));exact(Kq (Ko (p:=⟨qh,1,none⟩) (Ko (p:=⟨qh,0,none⟩) (Kr qy.out qe.out (by decide)) (fun _ hk=>hk.2) (.int .i64 yb)) (fun _ hk=>hk.2) (.int .i64 ye)) (fun _ h_=>h_.1))) hb);have qw:=Ka (Kn (g:=qg) (o:=.cells #[.int .i64 qj,.int .i64 qk] 30 (0,0)) (by(with_reducible repeat(first|refine Kg ?_ _|refine Kb ?_|refine Kf ?_ _));refine blk_far ?_ yc.out _;(with_reducible repeat(first|refine Kg ?_ _|refine Kb ?_|refine Kf ?_ _));refine blk_far ?_ yc.out _;(with_reducible repeat(first|refine Kg ?_ _|refine Kb ?_|refine Kf ?_ _));exact qa.out) hb);have qz:=Ka (Kn (g:=qd) (o:=.cells #[.int .i64 qq,.int .i64 qr] 30 (0,0)) (by(with_reducible repeat(first|refine Kg ?_ _|refine Kb ?_|refine Kf ?_ _));refine blk_far ?_ yd.out _;(with_reducible repeat(first|refine Kg ?_ _|refine Kb ?_|refine Kf ?_ _));refine blk_far ?_ yd.out _;(with_reducible repeat(first|refine Kg ?_ _|refine Kb ?_|refine Kf ?_ _));exact qb.out) hb);have n5_:=Ka (Kn (g:=qh) (o:=.cells #[.int .i64 yb,.int .i64 ye] 30 (0,0)) (by(with_reducible repeat(first|refine Kg ?_ _|refine Kb ?_|refine Kf ?_ _));refine blk_put (cs:=#[.int .i64 yb,.int .i64 0]) ?_ 1 _ rfl;(with_reducible repeat(first|refine Kg ?_ _|refine Kb ?_|refine Kf ?_ _));refine blk_put (cs:=#[.int .i64 0,.int .i64 0]) ?_ 0 _ rfl;(with_reducible repeat(first|refine Kg ?_ _|refine Kb ?_|refine Kf ?_ _));exact qe.out) hb);have n6_:=Ka (Ks (by repeat(first|(with_reducible first|exact HB.out|apply Kk|apply Kh|apply Kl|refine Ke ?_ qf.out|refine Ke ?_ qi.out|refine Ke ?_ yg.out)|exact HB.out)) hb);clear qn;clear qc;clear qy;clear qa;clear qb;clear qe;clear HB;have qn:=qt;have qc:=qu;have qy:=qv;have qa:=qw;have qb:=qz;have qe:=n5_;have HB:=n6_;clear qt qu qv qw qz n5_ n6_;(try clear hb);(try clear hb2);(try clear hk);(try clear hi)))
         go_meet
         case rel=>exact⟨_,(true),(by first|rfl|(simp;done)|(simp [*];done)),H',⟨by have:=HJ4.out;first|omega|exact Nat.le_refl _⟩,⟨by(with_reducible repeat(first|apply Ki|apply Kj|apply Kc));exact Kq qc.out (fun _ hk=>trivial)⟩,⟨by(with_reducible repeat(first|refine Kg ?_ _|refine Kb ?_|refine Kf ?_ _));exact qa.out⟩,⟨by(with_reducible repeat(first|refine Kg ?_ _|refine Kb ?_|refine Kf ?_ _));exact qb.out⟩,⟨by(with_reducible repeat(first|refine Kg ?_ _|refine Kb ?_|refine Kf ?_ _));exact qe.out⟩,⟨by repeat(first|(with_reducible first|exact HB.out|apply Kk|apply Kh|apply Kl|refine Ke ?_ qf.out|refine Ke ?_ qi.out|refine Ke ?_ yg.out)|exact HB.out)⟩⟩
       case rest=>
        clear HC35
        try clear c1
        try clear c2
        try clear c2b0
        try clear c2b1
        try clear p2
        try clear c3
        try clear c4
        try clear c5
        try clear c10
        try clear c11
        try clear c12
        try clear c14
        try clear c15
        try clear c19
        try clear c26
        try clear c29
        try clear c29b0
        try clear c33
        try clear c33b0
        try clear c33b1
        try clear c41
        try clear c42
        try clear c45
        try clear c50
        try clear c51
        try clear c53
        try clear hcz12_0
        try clear hcz12_1
        try clear hcz20_0
        try clear hcz20_1
        try clear hcz21_0
        try clear hcz21_1
        try clear hcz43_0
        try clear hcz43_1
        try clear hcz52_0
        try clear hcz52_1
        try clear hcz54_0
        try clear hcz54_1
        try clear hcz8_0
        try clear hcz8_1
        try clear hfz12_0
        try clear hfz12_1
        try clear hfz20_0
        try clear hfz20_1
        try clear hfz21_0
        try clear hfz21_1
        try clear hfz43_0
        try clear hfz43_1
        try clear hfz52_0
        try clear hfz52_1
        try clear hfz54_0
        try clear hfz54_1
        try clear hfz8_0
        try clear hfz8_1
        try clear p2
        obtain⟨kq,x59_34,rfl,HA,HJ34,qc,qa,qb,qe,HB⟩:=hcut
        have yo:=(Km qc.out).1
        rw [yo] at qc
        (try simp only [yo])
        (try simp only [yo] at qa)
        (try simp only [yo] at qb)
        (try simp only [yo] at qe)
        cases kq with
        | zero => exact absurd HA.out (by simp [laws_FnExactReadTitles.j1])
        | succ kj34 =>
         have H:=HA.out
         clear HA
         simp only [laws_FnExactReadTitles.j1] at H
         by_cases c59:x59_34=true
         ·subst c59
          have H1:(some false)=some r:=by rw [if_pos rfl] at H;exact H
          clear H
          have H:=H1
          clear H1
          obtain rfl:=Option.some.inj H
          go_wp2
          go_ret
          exact⟨by first|rfl|(simp [errW_none,errW_some] <;> rfl)|(simp [*,errW_none,errW_some] <;> rfl),by repeat(first|(with_reducible first|exact HB.out|apply Kk|apply Kh|apply Kl|refine Ke ?_ qf.out|refine Ke ?_ qi.out|refine Ke ?_ yg.out)|exact HB.out)⟩
         ·replace c59:=Bool.eq_false_iff.mpr c59
          subst c59
          have H1:((laws_heldTitleS.f kj34 qo 1).bind fun yh=>(if yh < 0 then (some false) else (if yh=qx then (some true) else (some false))))=some r:=by rw [if_neg (show ¬ (false=true) by decide)] at H;exact H
          clear H
          have H:=H1
          clear H1
          replace H:=Option.bind_eq_some_iff.mp H
          obtain⟨yh,A600,H⟩:=H
          replace H:(if yh < 0 then (some false) else (if yh=qx then (some true) else (some false)))=some r:=H
          have A60:=Ka A600
          clear A600
          by_cases c61:yh < 0
          ·rw [if_pos c61] at H
           have c61b0:decide (yh < 0)=true:=decide_eq_true c61
           clear c61
           obtain rfl:=Option.some.inj H
           go_wp2_with (first|((with_reducible refine Kt (f:=15) rfl ?_);refine goesL_ (some 62) rfl rfl Tryd.func15 (by kernel_rfl) rfl #[.slice yk qo.length ym,.int .i64 1] rfl (by(try simp only [List.map_toArray,List.map_cons,List.map_nil]);first|done|rfl|(simp only [List.length_drop,List.length_take];rfl)) ?_;(with_reducible refine(laws_heldTitleS.calls kj34 _ _ qo 1 yh _ ?side1 ?side2 A60.out).mono ?_);(case side1=>repeat(first|exact(Km qc.out).2.2|(with_reducible refine Kd.C_alloc ?_ _)|(with_reducible refine Kd.C_drewN ?_ _)|(with_reducible refine Kd.C_drew ?_)));(case side2=>exact(Km qc.out).2.1);rintro e w62 ⟨rfl,hb⟩;refine⟨_,rfl,?_⟩;have qt:=Ka (Kp (by(with_reducible repeat(first|apply Ki|apply Kj|apply Kc));exact qc.out) hb);have qu:=Ka (Kn (g:=qg) (o:=.cells #[.int .i64 qj,.int .i64 qk] 30 (0,0)) (by(with_reducible repeat(first|refine Kg ?_ _|refine Kb ?_|refine Kf ?_ _));exact qa.out) hb);have qv:=Ka (Kn (g:=qd) (o:=.cells #[.int .i64 qq,.int .i64 qr] 30 (0,0)) (by(with_reducible repeat(first|refine Kg ?_ _|refine Kb ?_|refine Kf ?_ _));exact qb.out) hb);have qw:=Ka (Kn (g:=qh) (o:=.cells #[.int .i64 yb,.int .i64 ye] 30 (0,0)) (by(with_reducible repeat(first|refine Kg ?_ _|refine Kb ?_|refine Kf ?_ _));exact qe.out) hb);have qz:=Ka (Ks (by repeat(first|(with_reducible first|exact HB.out|apply Kk|apply Kh|apply Kl|refine Ke ?_ qf.out|refine Ke ?_ qi.out|refine Ke ?_ yg.out)|exact HB.out)) hb);clear qc;clear qa;clear qb;clear qe;clear HB;have qc:=qt;have qa:=qu;have qb:=qv;have qe:=qw;have HB:=qz;clear qt qu qv qw qz;(try clear hb);(try clear hb2);(try clear hk);(try clear hi)))
           go_ret
           exact⟨by first|rfl|(simp [errW_none,errW_some] <;> rfl)|(simp [*,errW_none,errW_some] <;> rfl),by repeat(first|(with_reducible first|exact HB.out|apply Kk|apply Kh|apply Kl|refine Ke ?_ qf.out|refine Ke ?_ qi.out|refine Ke ?_ yg.out)|exact HB.out)⟩
          ·rw [if_neg c61] at H
           have c61b0:decide (yh < 0)=false:=decide_eq_false c61
           clear c61
           by_cases c63:yh=qx
           ·rw [if_pos c63] at H
            have c63b0:(yh == qx)=true:=beq_iff_eq.mpr c63
            have c63b1:(yh != qx)=false:=bne_eq_false_iff_eq.mpr c63
            clear c63
            obtain rfl:=Option.some.inj H
            go_wp2_with (first|((with_reducible refine Kt (f:=15) rfl ?_);refine goesL_ (some 62) rfl rfl Tryd.func15 (by kernel_rfl) rfl #[.slice yk qo.length ym,.int .i64 1] rfl (by(try simp only [List.map_toArray,List.map_cons,List.map_nil]);first|done|rfl|(simp only [List.length_drop,List.length_take];rfl)) ?_;(with_reducible refine(laws_heldTitleS.calls kj34 _ _ qo 1 yh _ ?side1 ?side2 A60.out).mono ?_);(case side1=>repeat(first|exact(Km qc.out).2.2|(with_reducible refine Kd.C_alloc ?_ _)|(with_reducible refine Kd.C_drewN ?_ _)|(with_reducible refine Kd.C_drew ?_)));(case side2=>exact(Km qc.out).2.1);rintro e w64 ⟨rfl,hb⟩;refine⟨_,rfl,?_⟩;have qt:=Ka (Kp (by(with_reducible repeat(first|apply Ki|apply Kj|apply Kc));exact qc.out) hb);have qu:=Ka (Kn (g:=qg) (o:=.cells #[.int .i64 qj,.int .i64 qk] 30 (0,0)) (by(with_reducible repeat(first|refine Kg ?_ _|refine Kb ?_|refine Kf ?_ _));exact qa.out) hb);have qv:=Ka (Kn (g:=qd) (o:=.cells #[.int .i64 qq,.int .i64 qr] 30 (0,0)) (by(with_reducible repeat(first|refine Kg ?_ _|refine Kb ?_|refine Kf ?_ _));exact qb.out) hb);have qw:=Ka (Kn (g:=qh) (o:=.cells #[.int .i64 yb,.int .i64 ye] 30 (0,0)) (by(with_reducible repeat(first|refine Kg ?_ _|refine Kb ?_|refine Kf ?_ _));exact qe.out) hb);have qz:=Ka (Ks (by repeat(first|(with_reducible first|exact HB.out|apply Kk|apply Kh|apply Kl|refine Ke ?_ qf.out|refine Ke ?_ qi.out|refine Ke ?_ yg.out)|exact HB.out)) hb);clear qc;clear qa;clear qb;clear qe;clear HB;have qc:=qt;have qa:=qu;have qb:=qv;have qe:=qw;have HB:=qz;clear qt qu qv qw qz;(try clear hb);(try clear hb2);(try clear hk);(try clear hi)))
            go_ret
            exact⟨by first|rfl|(simp [errW_none,errW_some] <;> rfl)|(simp [*,errW_none,errW_some] <;> rfl),by repeat(first|(with_reducible first|exact HB.out|apply Kk|apply Kh|apply Kl|refine Ke ?_ qf.out|refine Ke ?_ qi.out|refine Ke ?_ yg.out)|exact HB.out)⟩
           ·rw [if_neg c63] at H
            have c63b0:(yh == qx)=false:=beq_eq_false_iff_ne.mpr c63
            have c63b1:(yh != qx)=true:=bne_iff_ne.mpr c63
            obtain rfl:=Option.some.inj H
            go_wp2_with (first|((with_reducible refine Kt (f:=15) rfl ?_);refine goesL_ (some 62) rfl rfl Tryd.func15 (by kernel_rfl) rfl #[.slice yk qo.length ym,.int .i64 1] rfl (by(try simp only [List.map_toArray,List.map_cons,List.map_nil]);first|done|rfl|(simp only [List.length_drop,List.length_take];rfl)) ?_;(with_reducible refine(laws_heldTitleS.calls kj34 _ _ qo 1 yh _ ?side1 ?side2 A60.out).mono ?_);(case side1=>repeat(first|exact(Km qc.out).2.2|(with_reducible refine Kd.C_alloc ?_ _)|(with_reducible refine Kd.C_drewN ?_ _)|(with_reducible refine Kd.C_drew ?_)));(case side2=>exact(Km qc.out).2.1);rintro e w65 ⟨rfl,hb⟩;refine⟨_,rfl,?_⟩;have qt:=Ka (Kp (by(with_reducible repeat(first|apply Ki|apply Kj|apply Kc));exact qc.out) hb);have qu:=Ka (Kn (g:=qg) (o:=.cells #[.int .i64 qj,.int .i64 qk] 30 (0,0)) (by(with_reducible repeat(first|refine Kg ?_ _|refine Kb ?_|refine Kf ?_ _));exact qa.out) hb);have qv:=Ka (Kn (g:=qd) (o:=.cells #[.int .i64 qq,.int .i64 qr] 30 (0,0)) (by(with_reducible repeat(first|refine Kg ?_ _|refine Kb ?_|refine Kf ?_ _));exact qb.out) hb);have qw:=Ka (Kn (g:=qh) (o:=.cells #[.int .i64 yb,.int .i64 ye] 30 (0,0)) (by(with_reducible repeat(first|refine Kg ?_ _|refine Kb ?_|refine Kf ?_ _));exact qe.out) hb);have qz:=Ka (Ks (by repeat(first|(with_reducible first|exact HB.out|apply Kk|apply Kh|apply Kl|refine Ke ?_ qf.out|refine Ke ?_ qi.out|refine Ke ?_ yg.out)|exact HB.out)) hb);clear qc;clear qa;clear qb;clear qe;clear HB;have qc:=qt;have qa:=qu;have qb:=qv;have qe:=qw;have HB:=qz;clear qt qu qv qw qz;(try clear hb);(try clear hb2);(try clear hk);(try clear hi)))
            go_ret
            exact⟨by first|rfl|(simp [errW_none,errW_some] <;> rfl)|(simp [*,errW_none,errW_some] <;> rfl),by repeat(first|(with_reducible first|exact HB.out|apply Kk|apply Kh|apply Kl|refine Ke ?_ qf.out|refine Ke ?_ qi.out|refine Ke ?_ yg.out)|exact HB.out)⟩
      ·rw [if_neg c33] at H
       have c33b0:(yf == qx)=false:=beq_eq_false_iff_ne.mpr c33
       have c33b1:(yf != qx)=true:=bne_iff_ne.mpr c33
       obtain rfl:=Option.some.inj H
       obtain⟨Ao66,co66,eo66⟩:=Kd.R_slice qc.out
       subst eo66
       go_wp2_with (first|((with_reducible refine Kt (f:=14) rfl ?_);refine goesL_ (some 36) rfl rfl Tryd.func14 (by kernel_rfl) rfl #[.slice Ao66 ql.length co66,.int .i64 1] rfl (by(try simp only [List.map_toArray,List.map_cons,List.map_nil]);first|done|rfl|(simp only [List.length_drop,List.length_take];rfl)) ?_;(with_reducible refine(laws_markTitleS.calls kj4 (fun k_=>some k_=(.slice Ao66 ql.length co66:Value).ownBlock) (.slice Ao66 ql.length co66) ql 1 qx qo w _ ?side1 ?side2 A27.out).mono ?_);(case side1=>repeat(first|(with_reducible first|exact HB.out|apply Kk|apply Kh|apply Kl|refine Ke ?_ qf.out|refine Ke ?_ qi.out)|exact HB.out));(case side2=>exact Kd.R_tight rfl qc.out);rintro e w67 ⟨rfl,hy0,hb,hkp⟩;refine⟨_,rfl,?_⟩;have qt:=Ka (Kq (ok':=fun k_=>some k_≠(.slice Ao66 ql.length co66:Value).ownBlock) (Kd.R_keptB (qn.out) hkp (fun k_ hk_ hs_=>(hk_) hs_)) (fun k_ hk_=>hk_.1));have qu:=Ka (Kd.R_reok rfl hy0 (fun k_ e_=>qc.out.1 k_ e_));have qv:=Ka (blk_kept (by(with_reducible repeat(first|refine Kg ?_ _|refine Kb ?_|refine Kf ?_ _));exact qa.out) hkp (fun hs_=>(fun e_=>(Kd.R_ne qc.out qa.out (by decide)) e_) hs_));have qw:=Ka (blk_kept (by(with_reducible repeat(first|refine Kg ?_ _|refine Kb ?_|refine Kf ?_ _));exact qb.out) hkp (fun hs_=>(fun e_=>(Kd.R_ne qc.out qb.out (by decide)) e_) hs_));have qz:=Ka (hb);clear qn;clear qc;clear qa;clear qb;clear HB;have qn:=qt;have qc:=qu;have qa:=qv;have qb:=qw;have HB:=qz;clear qt qu qv qw qz;(try clear hb);(try clear hkp);(try clear hy0))|((with_reducible refine Kt (f:=15) rfl ?_);refine goesL_ (some 39) rfl rfl Tryd.func15 (by kernel_rfl) rfl #[.slice Ao66 qo.length co66,.int .i64 1] rfl (by(try simp only [List.map_toArray,List.map_cons,List.map_nil]);first|done|(rw [show qo.length=ql.length from(Km qc.out).1.symm] <;> rfl)|rfl|(simp only [List.length_drop,List.length_take];rfl)) ?_;(with_reducible refine(laws_heldTitleS.calls kj4 _ _ qo 1 yf _ ?side1 ?side2 A28.out).mono ?_);(case side1=>repeat(first|exact(Km qc.out).2.2|(with_reducible refine Kd.C_alloc ?_ _)|(with_reducible refine Kd.C_drewN ?_ _)|(with_reducible refine Kd.C_drew ?_)));(case side2=>rw [show qo.length=ql.length from(Km qc.out).1.symm];exact(Km qc.out).2.1);rintro e w68 ⟨rfl,hb⟩;refine⟨_,rfl,?_⟩;have qt:=Ka (Kp (by(with_reducible repeat(first|apply Ki|apply Kj|apply Kc));exact qn.out) hb);have qu:=Ka (Kp (by(with_reducible repeat(first|apply Ki|apply Kj|apply Kc));exact qc.out) hb);have qv:=Ka (Kn (g:=qg) (o:=.cells #[.int .i64 qj,.int .i64 qk] 30 (0,0)) (by(with_reducible repeat(first|refine Kg ?_ _|refine Kb ?_|refine Kf ?_ _));exact qa.out) hb);have qw:=Ka (Kn (g:=qd) (o:=.cells #[.int .i64 qq,.int .i64 qr] 30 (0,0)) (by(with_reducible repeat(first|refine Kg ?_ _|refine Kb ?_|refine Kf ?_ _));exact qb.out) hb);have qz:=Ka (Ks (by repeat(first|(with_reducible first|exact HB.out|apply Kk|apply Kh|apply Kl|refine Ke ?_ qf.out|refine Ke ?_ qi.out)|exact HB.out)) hb);clear qn;clear qc;clear qa;clear qb;clear HB;have qn:=qt;have qc:=qu;have qa:=qv;have qb:=qw;have HB:=qz;clear qt qu qv qw qz;(try clear hb);(try clear hb2);(try clear hk);(try clear hi)))
       go_ret
       exact⟨by first|rfl|(simp [errW_none,errW_some] <;> rfl)|(simp [*,errW_none,errW_some] <;> rfl),by repeat(first|(with_reducible first|exact HB.out|apply Kk|apply Kh|apply Kl|refine Ke ?_ qf.out|refine Ke ?_ qi.out)|exact HB.out)⟩

end Go.Proofs.YtidogkjhjmcliaaDoor.HFnExactReadTitles
