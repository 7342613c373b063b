-- Laid by myprint.py, a program of this repo, out of the kit's printer and this repo's own texts (wip/hand).
import Derived.Test.YtbdnpfjjaokdbaaHFnDecodedx0
import Derived.Test.YtbdnpfjjaokdbaaHFnDecodedx1
import Derived.Test.YtbdnpfjjaokdbaaHFnDecodedx4
import Derived.Test.YtbdnpfjjaokdbaaHFnDecodedx7
import Derived.Test.YtbdnpfjjaokdbaaHFnDecodedx11
namespace Go.Proofs.Ytbdnpfjjaokdbaa.HFnDecoded
open Go.RowKit Go.Proofs.YtbdnpfjjaokdbaaW.PrintWords Go.Proofs.YtbdnpfjjaokdbaaW.PrintLast Go.Proofs.YtbdnpfjjaokdbaaW.PrintMore
attribute [local go_sem] max2_int min2_int max_two min_two max_three min_three max_four min_four   -- for this text's walks alone
set_option linter.unusedVariables false
set_option linter.unusedSimpArgs false
theorem Ma : type_of% @Aside0.mk := @Aside0.mk
theorem Mb : type_of% @blk_frozen := @blk_frozen
theorem Mc : type_of% @Kd.C_drew := @Kd.C_drew
theorem Md : type_of% @blk_cell := @blk_cell
theorem Me : type_of% @Kd.C_alloc := @Kd.C_alloc
theorem Mf : type_of% @Kd.C_drewN := @Kd.C_drewN
theorem Mg : type_of% @Kd.C_below := @Kd.C_below
theorem Mh : type_of% @below_step := @below_step
theorem Mi : type_of% @pw_below_drewN := @pw_below_drewN
theorem Mj : type_of% @below_drew1 := @below_drew1
theorem Mk : type_of% @below_alloc := @below_alloc

/-! ### laws_FnDecoded: function 12 -/
open Go.Proofs.Ytbdnpfjjaokdbaa.PB
def FineD (a c : Int) (xs bs : List Int) (q : Int) : Prop := ∃ (k : Nat) (r1 r2 : Int) (ps : List Int) (is : Bool), impl_Decode.f k a c xs bs q = some (r1, r2, ps, is) ∧ spec_Decode.f k a c xs bs q = some (r1, r2, ps, is) ∧ laws_sameInts.f k ps ps = some true ∧ (is = false → ps = [] ∧ r1 = 0) ∧
 (is = true → r1 = a ∧ r2 = c ∧ spec_PictureOk.f k r1 r2 ps = some true ∧ ∃ (m1 m2 : Int) (ms : List Int), impl_Decode.f k a c xs (bs ++ [0]) q = some (m1, m2, ms, false))
def FineAllD : Prop := ∀ (a c : Int) (xs bs : List Int) (q : Int), xs.length ≤ 1000 → bs.length ≤ 9010 → Byts bs → FineD a c xs bs q
open Classical in
noncomputable def laws_FnDecoded.f (l0 : List Int) : Option Bool := if 4096 < l0.length then some true else if EncTot ∧ FineAllD then some true else none
def laws_FnDecoded.T10 : Bool × List (List Nat × List Nat) := (true, [([], []), ([], []), ([], []), ([1, 2], [1, 2]), ([], []), ([3, 4, 3], [3, 4]), ([], []), ([0, 5, 6, 5], [0, 5, 6]), ([7], [7]), ([8], [8]), ([8], [8]), ([], []), ([11, 9, 7, 0, 1, 2, 3, 4, 5, 6, 7, 8, 9, 11], [9, 11]), ([10, 12, 0, 1, 2, 3, 4, 5, 6, 7, 8, 9, 10, 11, 12], [10])])
def laws_FnDecoded.B10 : List Nat := [0, 0, 0, 6, 0, 30, 0, 127, 255, 511, 511, 0, 3071, 8191]
theorem laws_FnDecoded.tab10 : rtab .any (opsOf Try.f12 10) = laws_FnDecoded.T10 := by kernel_rfl
theorem laws_FnDecoded.bits10 : waitsOk laws_FnDecoded.T10.2 laws_FnDecoded.B10 = true := by kernel_rfl
theorem start10 {P : Program} {ops : Array Oper} {Q : Exit → Act → World → Prop} {id n : Nat} {a : Act} {w : World} (l : Array Bool) (hm : P.follows .mixedOrders = true) (hn : ops.size = n) (hl : Array.replicate n false = l)
  (h:∀ wr,Below w.heap.size w wr→wpAnyLast P .any ops Q (fun w'=>Below wr.heap.size wr w') [] n l a wr):(Code.region id ops true).wp P Q a w:=
 start_ (S:=fun w'=>Below w.drew.heap.size w.drew w') (ds:=[]) l hm hn hl (Below.refl _ _) (fun _=>h w.drew (Mj (Below.refl _ _)))
set_option maxHeartbeats 4000000 in
set_option maxRecDepth 100000 in
theorem laws_FnDecoded.calls (A0 : Option Addr) (c0 : Nat) (l0 : List Int) (r : Bool) (w : World) (hr0 : Kd.C (Kd.int .u8) w A0 l0.length l0) (hc0 : l0.length ≤ c0) (h : laws_FnDecoded.f l0 = some r) :
  Calls Try.prog 12 #[.slice A0 l0.length c0] w fun e w'=>e=.returned (.bool r)∧Below w.heap.size w w':=by
 have HR0:=Ma hr0
 have HC0:=Ma hc0
 clear hr0 hc0
 have HB:=Ma (Below.refl w.heap.size w)
 unfold laws_FnDecoded.f at h
 by_cases hbig:4096 < l0.length
 ·rw [if_pos hbig] at h
  obtain rfl:=Option.some.inj h
  have HBIG:=Ma (show laws_big.f l0=some true from congrArg some (decide_eq_true (by omega)))
  clear h hbig
  go_enter Try.func12,Try.ntmps12
  go_wp2_with (first|(go_at_call 27;(with_reducible refine(laws_big.calls A0 c0 l0 true _ ?sb_true HC0.out HBIG.out).mono ?_);(case sb_true=>exact(by repeat(first|exact HR0.out|(with_reducible refine Me ?_ _)|(with_reducible refine Mf ?_ _)|(with_reducible refine Mc ?_))));rintro e wk_ ⟨rfl,⟨nd_,rfl⟩⟩))
  go_ret
  exact⟨rfl,(by repeat(first|(with_reducible first|exact HB.out|apply Mk|apply Mi|apply Mj)|exact HB.out))⟩
 ·rw [if_neg hbig] at h
  by_cases hf:EncTot∧FineAllD
  case neg=>
   rw [if_neg hf] at h
   cases h
  rw [if_pos hf] at h
  obtain rfl:=Option.some.inj h
  have HET:=Ma hf.1
  have HFN:=Ma hf.2
  have HL0:=Ma (Nat.le_of_not_lt hbig)
  have HBIG:=Ma (show laws_big.f l0=some false from congrArg some (decide_eq_false (by omega)))
  clear h hbig hf
  go_enter Try.func12,Try.ntmps12
  go_upto_region 4 with (first|(go_at_call 27;(with_reducible refine(laws_big.calls A0 c0 l0 false _ ?sb_false HC0.out HBIG.out).mono ?_);(case sb_false=>exact(by repeat(first|exact HR0.out|(with_reducible refine Me ?_ _)|(with_reducible refine Mf ?_ _)|(with_reducible refine Mc ?_))));rintro e wk_ ⟨rfl,⟨nd_,rfl⟩⟩)|(go_at_call 44;(with_reducible refine(spec_DrawDecode.calls HET.out A0 c0 l0 _ ?s1901 HC0.out HL0.out).mono ?_);(case s1901=>exact(by repeat(first|exact HR0.out|(with_reducible refine Me ?_ _)|(with_reducible refine Mf ?_ _)|(with_reducible refine Mc ?_))));rintro e wd_ ⟨a,c,v0,xs,vb,bs,q,rfl,hv0_,hr_,hlx_,hlb_,hby_,hb_⟩;skip;have mh_:=Ma (Mh (by repeat(first|(with_reducible first|exact HB.out|apply Mk|apply Mi|apply Mj)|exact HB.out)) hb_);clear HB;have HB:=mh_;clear mh_;clear hb_;obtain⟨yf,yg,e0_⟩:=Kd.V_slice hv0_;subst e0_;have HX:=Ma (Kd.V_reads' hv0_).2.2;have HKX:=Ma (Kd.V_reads' hv0_).2.1;have HLX:=Ma hlx_;have HLB:=Ma hlb_;have HBY:=Ma hby_;clear hv0_ hlx_ hlb_ hby_;obtain⟨AB,cB,rfl,hk_,hC_⟩:=Kd.R_reads hr_;have HCB:=Ma hC_;have HKB:=Ma hk_;clear hC_ hk_ hr_)|((with_reducible refine gate_dst (N:=3) rfl ?_);refine box_event ?hg (N:=3) ?hd (cs:=#[.int .i64 0,.int .i64 0,.slice none 0 0]) (t:=27) ?hr ?_;(case hd=>rfl);(case hg=>rfl);(case hr=>first|(go_simp;done)|(go_simp;rfl));intro g3 hg_ w3_ hbox_ hb_;have hgeg3:=Ma (show _≤g3 from Nat.le_of_eq hg_.symm);have qb:=Ma (show Blk w w3_ g3 #[.int .i64 0,.int .i64 0,.slice none 0 0] from⟨by rw [hg_];exact Below.size (by repeat(first|(with_reducible first|exact HB.out|apply Mk|apply Mi|apply Mj)|exact HB.out)),hbox_⟩);have qc:=Ma hb_;clear hbox_ hg_ hb_;obtain⟨wng3_,hwn_⟩:∃ x_,x_=w3_:=⟨_,rfl⟩;subst hwn_;have qi:=Mb qb.out.2 0;have ql:wng3_.cell? ⟨g3,0,none⟩=some (.int .i64 0):=(Md qb.out.2 0).trans rfl;have qj:=Mb qb.out.2 1;have qm:wng3_.cell? ⟨g3,1,none⟩=some (.int .i64 0):=(Md qb.out.2 1).trans rfl;have qk:=Mb qb.out.2 2;have qn:wng3_.cell? ⟨g3,2,none⟩=some (.slice none 0 0):=(Md qb.out.2 2).trans rfl)|((with_reducible refine gate_store (t:=27) (p:=3) rfl ?_);refine store_event (t:=27) (p:=3) (v:=?vo902x_) (w1:=((wng3_.setCell ⟨g3,0,none⟩ (.int .i64 a)).setCell ⟨g3,1,none⟩ (.int .i64 c)).setCell ⟨g3,2,none⟩ (.slice yf xs.length yg)) ?hg ?ho ?hn ?hr ?_;(case ho=>rfl);(case hg=>rfl);(case hn=>rfl);(case hr=>first|(go_simp;done)|(go_simp;rfl));intro ws_ hw_;subst hw_;have m0_:=Ma (show Blk w _ g3 #[.int .i64 a,.int .i64 c,.slice yf xs.length yg] from qb.out.set3 (.int .i64 a) (.int .i64 c) (.slice yf xs.length yg));have mh_:=Ma (below_set3 qc.out hgeg3.out (.int .i64 a) (.int .i64 c) (.slice yf xs.length yg));clear qb qc;revert m0_ mh_;generalize (((wng3_.setCell ⟨g3,0,none⟩ (.int .i64 a)).setCell ⟨g3,1,none⟩ (.int .i64 c)).setCell ⟨g3,2,none⟩ (.slice yf xs.length yg))=w5_;intro qb qc;have qi:=Mb qb.out.2 0;have ql:w5_.cell? ⟨g3,0,none⟩=some (.int .i64 a):=(Md qb.out.2 0).trans rfl;have qj:=Mb qb.out.2 1;have qm:w5_.cell? ⟨g3,1,none⟩=some (.int .i64 c):=(Md qb.out.2 1).trans rfl;have qk:=Mb qb.out.2 2;have qn:w5_.cell? ⟨g3,2,none⟩=some (.slice yf xs.length yg):=(Md qb.out.2 2).trans rfl;have qf:=Ma (Mg (by repeat(first|exact HX.out|(with_reducible refine Me ?_ _)|(with_reducible refine Mf ?_ _)|(with_reducible refine Mc ?_))) qc.out);have qg:=Ma (Mg (by repeat(first|exact HCB.out|(with_reducible refine Me ?_ _)|(with_reducible refine Mf ?_ _)|(with_reducible refine Mc ?_))) qc.out);have mh_:=Ma (Mh (by repeat(first|(with_reducible first|exact HB.out|apply Mk|apply Mi|apply Mj)|exact HB.out)) qc.out);clear HB HX HCB;have HB:=mh_;clear mh_;have HX:=qf;clear qf;have HCB:=qg;clear qg;clear qc))
  obtain⟨k,r1,r2,ps,is,hD1_,hD2_,hSM_,hF_,hT_⟩:=HFN.out a c xs bs q HLX.out HLB.out HBY.out
  clear HFN
  have HD1:=Ma hD1_
  have HD2:=Ma hD2_
  have HSM:=Ma hSM_
  clear hD1_ hD2_ hSM_
  cases is
  ·obtain⟨ep_,e1_⟩:=hF_ rfl
   clear hF_ hT_
   have hl0_:ps.length=0:=congrArg List.length ep_
   have hp1_:decide ((ps.length:Int)=0)=true:=decide_eq_true (by omega)
   have hp2_:((ps.length:Int) == 0)=true:=beq_iff_eq.2 (by omega)
   have hp3_:decide (ps.length=0)=true:=decide_eq_true hl0_
   have HL:=Ma hl0_
   clear hl0_
   subst e1_
   clear ep_
   go_wp2_with (first|(go_at_call 36;(with_reducible refine(impl_Decode.calls k a c yf yg xs AB cB bs q 0 r2 ps false _ ?s1903 HKX.out ?s2903 HKB.out HD1.out).mono ?_);(case s1903=>exact(by repeat(first|exact HX.out|(with_reducible refine Me ?_ _)|(with_reducible refine Mf ?_ _)|(with_reducible refine Mc ?_))));(case s2903=>exact(by repeat(first|exact HCB.out|(with_reducible refine Me ?_ _)|(with_reducible refine Mf ?_ _)|(with_reducible refine Mc ?_))));rintro e wk_ ⟨v_,rfl,hr_,hb_⟩;obtain⟨AP,cP,rfl,hk_,hC_⟩:=Kd.R_reads hr_;have HCP:=Ma hC_;have HKP:=Ma hk_;clear hC_ hk_ hr_;have qe:=Ma (Blk.below (by repeat(first|(with_reducible first|exact qb.out|apply Blk.alloc|apply Blk.drewN|apply Blk.drew_)|exact qb.out)) hb_);have qf:=Ma (Mg (by repeat(first|exact HX.out|(with_reducible refine Me ?_ _)|(with_reducible refine Mf ?_ _)|(with_reducible refine Mc ?_))) hb_);have qg:=Ma (Mg (by repeat(first|exact HCB.out|(with_reducible refine Me ?_ _)|(with_reducible refine Mf ?_ _)|(with_reducible refine Mc ?_))) hb_);have mh_:=Ma (Mh (by repeat(first|(with_reducible first|exact HB.out|apply Mk|apply Mi|apply Mj)|exact HB.out)) hb_);clear HB qb HX HCB;have HB:=mh_;clear mh_;have qb:=qe;clear qe;have HX:=qf;clear qf;have HCB:=qg;clear qg;have qi:=Mb qb.out.2 0;have ql:wk_.cell? ⟨g3,0,none⟩=some (.int .i64 a):=(Md qb.out.2 0).trans rfl;have qj:=Mb qb.out.2 1;have qm:wk_.cell? ⟨g3,1,none⟩=some (.int .i64 c):=(Md qb.out.2 1).trans rfl;have qk:=Mb qb.out.2 2;have qn:wk_.cell? ⟨g3,2,none⟩=some (.slice yf xs.length yg):=(Md qb.out.2 2).trans rfl;clear hb_;skip)|((with_reducible refine gate_dst (N:=6) rfl ?_);refine box_event ?hg (N:=6) ?hd (cs:=#[.int .i64 0,.int .i64 0,.slice none 0 0]) (t:=27) ?hr ?_;(case hd=>rfl);(case hg=>rfl);(case hr=>first|(go_simp;done)|(go_simp;rfl));intro g6 hg_ w6_ hbox_ hb_;have hgeg6:=Ma (show _≤g6 from Nat.le_of_eq hg_.symm);have qd:=Ma (show Blk w w6_ g6 #[.int .i64 0,.int .i64 0,.slice none 0 0] from⟨by rw [hg_];exact Below.size (by repeat(first|(with_reducible first|exact HB.out|apply Mk|apply Mi|apply Mj)|exact HB.out)),hbox_⟩);have qc:=Ma hb_;clear hbox_ hg_ hb_;obtain⟨qz,hwn_⟩:∃ x_,x_=w6_:=⟨_,rfl⟩;subst hwn_;have qr:=Mb qd.out.2 0;have qu:qz.cell? ⟨g6,0,none⟩=some (.int .i64 0):=(Md qd.out.2 0).trans rfl;have qs:=Mb qd.out.2 1;have qv:qz.cell? ⟨g6,1,none⟩=some (.int .i64 0):=(Md qd.out.2 1).trans rfl;have qt:=Mb qd.out.2 2;have qw:qz.cell? ⟨g6,2,none⟩=some (.slice none 0 0):=(Md qd.out.2 2).trans rfl)|((with_reducible refine gate_store (t:=27) (p:=6) rfl ?_);refine store_event (t:=27) (p:=6) (v:=?vo904x_) (w1:=((qz.setCell ⟨g6,0,none⟩ (.int .i64 0)).setCell ⟨g6,1,none⟩ (.int .i64 r2)).setCell ⟨g6,2,none⟩ (.slice AP ps.length cP)) ?hg ?ho ?hn ?hr ?_;(case ho=>rfl);(case hg=>rfl);(case hn=>rfl);(case hr=>first|(go_simp;done)|(go_simp;rfl));intro ws_ hw_;subst hw_;have m0_:=Ma (show Blk w _ g6 #[.int .i64 0,.int .i64 r2,.slice AP ps.length cP] from qd.out.set3 (.int .i64 0) (.int .i64 r2) (.slice AP ps.length cP));have mh_:=Ma (below_set3 qc.out hgeg6.out (.int .i64 0) (.int .i64 r2) (.slice AP ps.length cP));clear qd qc;revert m0_ mh_;generalize (((qz.setCell ⟨g6,0,none⟩ (.int .i64 0)).setCell ⟨g6,1,none⟩ (.int .i64 r2)).setCell ⟨g6,2,none⟩ (.slice AP ps.length cP))=w7_;intro qd qc;have qr:=Mb qd.out.2 0;have qu:w7_.cell? ⟨g6,0,none⟩=some (.int .i64 0):=(Md qd.out.2 0).trans rfl;have qs:=Mb qd.out.2 1;have qv:w7_.cell? ⟨g6,1,none⟩=some (.int .i64 r2):=(Md qd.out.2 1).trans rfl;have qt:=Mb qd.out.2 2;have qw:w7_.cell? ⟨g6,2,none⟩=some (.slice AP ps.length cP):=(Md qd.out.2 2).trans rfl;have qe:=Ma (Blk.below (by repeat(first|(with_reducible first|exact qb.out|apply Blk.alloc|apply Blk.drewN|apply Blk.drew_)|exact qb.out)) qc.out);have qf:=Ma (Mg (by repeat(first|exact HX.out|(with_reducible refine Me ?_ _)|(with_reducible refine Mf ?_ _)|(with_reducible refine Mc ?_))) qc.out);have qg:=Ma (Mg (by repeat(first|exact HCB.out|(with_reducible refine Me ?_ _)|(with_reducible refine Mf ?_ _)|(with_reducible refine Mc ?_))) qc.out);have qo:=Ma (Mg (by repeat(first|exact HCP.out|(with_reducible refine Me ?_ _)|(with_reducible refine Mf ?_ _)|(with_reducible refine Mc ?_))) qc.out);have mh_:=Ma (Mh (by repeat(first|(with_reducible first|exact HB.out|apply Mk|apply Mi|apply Mj)|exact HB.out)) qc.out);clear HB qb HX HCB HCP;have HB:=mh_;clear mh_;have qb:=qe;clear qe;have HX:=qf;clear qf;have HCB:=qg;clear qg;have HCP:=qo;clear qo;have qi:=Mb qb.out.2 0;have ql:w7_.cell? ⟨g3,0,none⟩=some (.int .i64 a):=(Md qb.out.2 0).trans rfl;have qj:=Mb qb.out.2 1;have qm:w7_.cell? ⟨g3,1,none⟩=some (.int .i64 c):=(Md qb.out.2 1).trans rfl;have qk:=Mb qb.out.2 2;have qn:w7_.cell? ⟨g3,2,none⟩=some (.slice yf xs.length yg):=(Md qb.out.2 2).trans rfl;clear qc)|(go_at_call 34;(with_reducible refine(spec_Decode.calls k a c yf yg xs AB cB bs q 0 r2 ps false _ ?s1905 HKX.out ?s2905 HKB.out HD2.out).mono ?_);(case s1905=>exact(by repeat(first|exact HX.out|(with_reducible refine Me ?_ _)|(with_reducible refine Mf ?_ _)|(with_reducible refine Mc ?_))));(case s2905=>exact(by repeat(first|exact HCB.out|(with_reducible refine Me ?_ _)|(with_reducible refine Mf ?_ _)|(with_reducible refine Mc ?_))));rintro e wk_ ⟨v_,rfl,hr_,hb_⟩;obtain⟨AW,cW,rfl,hk_,hC_⟩:=Kd.R_reads hr_;have HCW:=Ma hC_;have HKW:=Ma hk_;clear hC_ hk_ hr_;have qe:=Ma (Blk.below (by repeat(first|(with_reducible first|exact qb.out|apply Blk.alloc|apply Blk.drewN|apply Blk.drew_)|exact qb.out)) hb_);have qx:=Ma (Blk.below (by repeat(first|(with_reducible first|exact qd.out|apply Blk.alloc|apply Blk.drewN|apply Blk.drew_)|exact qd.out)) hb_);have qf:=Ma (Mg (by repeat(first|exact HX.out|(with_reducible refine Me ?_ _)|(with_reducible refine Mf ?_ _)|(with_reducible refine Mc ?_))) hb_);have qg:=Ma (Mg (by repeat(first|exact HCB.out|(with_reducible refine Me ?_ _)|(with_reducible refine Mf ?_ _)|(with_reducible refine Mc ?_))) hb_);have qo:=Ma (Mg (by repeat(first|exact HCP.out|(with_reducible refine Me ?_ _)|(with_reducible refine Mf ?_ _)|(with_reducible refine Mc ?_))) hb_);have mh_:=Ma (Mh (by repeat(first|(with_reducible first|exact HB.out|apply Mk|apply Mi|apply Mj)|exact HB.out)) hb_);clear HB qb qd HX HCB HCP;have HB:=mh_;clear mh_;have qb:=qe;clear qe;have qd:=qx;clear qx;have HX:=qf;clear qf;have HCB:=qg;clear qg;have HCP:=qo;clear qo;have qi:=Mb qb.out.2 0;have ql:wk_.cell? ⟨g3,0,none⟩=some (.int .i64 a):=(Md qb.out.2 0).trans rfl;have qj:=Mb qb.out.2 1;have qm:wk_.cell? ⟨g3,1,none⟩=some (.int .i64 c):=(Md qb.out.2 1).trans rfl;have qk:=Mb qb.out.2 2;have qn:wk_.cell? ⟨g3,2,none⟩=some (.slice yf xs.length yg):=(Md qb.out.2 2).trans rfl;have qr:=Mb qd.out.2 0;have qu:wk_.cell? ⟨g6,0,none⟩=some (.int .i64 0):=(Md qd.out.2 0).trans rfl;have qs:=Mb qd.out.2 1;have qv:wk_.cell? ⟨g6,1,none⟩=some (.int .i64 r2):=(Md qd.out.2 1).trans rfl;have qt:=Mb qd.out.2 2;have qw:wk_.cell? ⟨g6,2,none⟩=some (.slice AP ps.length cP):=(Md qd.out.2 2).trans rfl;clear hb_;skip)|((with_reducible refine gate_dst (N:=8) rfl ?_);refine box_event ?hg (N:=8) ?hd (cs:=#[.int .i64 0,.int .i64 0,.slice none 0 0]) (t:=27) ?hr ?_;(case hd=>rfl);(case hg=>rfl);(case hr=>first|(go_simp;done)|(go_simp;rfl));intro g8 hg_ w8_ hbox_ hb_;have hgeg8:=Ma (show _≤g8 from Nat.le_of_eq hg_.symm);have yc:=Ma (show Blk w w8_ g8 #[.int .i64 0,.int .i64 0,.slice none 0 0] from⟨by rw [hg_];exact Below.size (by repeat(first|(with_reducible first|exact HB.out|apply Mk|apply Mi|apply Mj)|exact HB.out)),hbox_⟩);have qc:=Ma hb_;clear hbox_ hg_ hb_;obtain⟨ya,hwn_⟩:∃ x_,x_=w8_:=⟨_,rfl⟩;subst hwn_;have hf0g8_:=Mb yc.out.2 0;have hz0g8_:ya.cell? ⟨g8,0,none⟩=some (.int .i64 0):=(Md yc.out.2 0).trans rfl;have hf1g8_:=Mb yc.out.2 1;have hz1g8_:ya.cell? ⟨g8,1,none⟩=some (.int .i64 0):=(Md yc.out.2 1).trans rfl;have hf2g8_:=Mb yc.out.2 2;have hz2g8_:ya.cell? ⟨g8,2,none⟩=some (.slice none 0 0):=(Md yc.out.2 2).trans rfl)|((with_reducible refine gate_store (t:=27) (p:=8) rfl ?_);refine store_event (t:=27) (p:=8) (v:=?vo906x_) (w1:=((ya.setCell ⟨g8,0,none⟩ (.int .i64 0)).setCell ⟨g8,1,none⟩ (.int .i64 r2)).setCell ⟨g8,2,none⟩ (.slice AW ps.length cW)) ?hg ?ho ?hn ?hr ?_;(case ho=>rfl);(case hg=>rfl);(case hn=>rfl);(case hr=>first|(go_simp;done)|(go_simp;rfl));intro ws_ hw_;subst hw_;have m0_:=Ma (show Blk w _ g8 #[.int .i64 0,.int .i64 r2,.slice AW ps.length cW] from yc.out.set3 (.int .i64 0) (.int .i64 r2) (.slice AW ps.length cW));have mh_:=Ma (below_set3 qc.out hgeg8.out (.int .i64 0) (.int .i64 r2) (.slice AW ps.length cW));clear yc qc;revert m0_ mh_;generalize (((ya.setCell ⟨g8,0,none⟩ (.int .i64 0)).setCell ⟨g8,1,none⟩ (.int .i64 r2)).setCell ⟨g8,2,none⟩ (.slice AW ps.length cW))=w9_;intro yc qc;have hf0g8_:=Mb yc.out.2 0;have hz0g8_:w9_.cell? ⟨g8,0,none⟩=some (.int .i64 0):=(Md yc.out.2 0).trans rfl;have hf1g8_:=Mb yc.out.2 1;have hz1g8_:w9_.cell? ⟨g8,1,none⟩=some (.int .i64 r2):=(Md yc.out.2 1).trans rfl;have hf2g8_:=Mb yc.out.2 2;have hz2g8_:w9_.cell? ⟨g8,2,none⟩=some (.slice AW ps.length cW):=(Md yc.out.2 2).trans rfl;have qe:=Ma (Blk.below (by repeat(first|(with_reducible first|exact qb.out|apply Blk.alloc|apply Blk.drewN|apply Blk.drew_)|exact qb.out)) qc.out);have qx:=Ma (Blk.below (by repeat(first|(with_reducible first|exact qd.out|apply Blk.alloc|apply Blk.drewN|apply Blk.drew_)|exact qd.out)) qc.out);have qf:=Ma (Mg (by repeat(first|exact HX.out|(with_reducible refine Me ?_ _)|(with_reducible refine Mf ?_ _)|(with_reducible refine Mc ?_))) qc.out);have qg:=Ma (Mg (by repeat(first|exact HCB.out|(with_reducible refine Me ?_ _)|(with_reducible refine Mf ?_ _)|(with_reducible refine Mc ?_))) qc.out);have qo:=Ma (Mg (by repeat(first|exact HCP.out|(with_reducible refine Me ?_ _)|(with_reducible refine Mf ?_ _)|(with_reducible refine Mc ?_))) qc.out);have mc3_:=Ma (Mg (by repeat(first|exact HCW.out|(with_reducible refine Me ?_ _)|(with_reducible refine Mf ?_ _)|(with_reducible refine Mc ?_))) qc.out);have mh_:=Ma (Mh (by repeat(first|(with_reducible first|exact HB.out|apply Mk|apply Mi|apply Mj)|exact HB.out)) qc.out);clear HB qb qd HX HCB HCP HCW;have HB:=mh_;clear mh_;have qb:=qe;clear qe;have qd:=qx;clear qx;have HX:=qf;clear qf;have HCB:=qg;clear qg;have HCP:=qo;clear qo;have HCW:=mc3_;clear mc3_;have qi:=Mb qb.out.2 0;have ql:w9_.cell? ⟨g3,0,none⟩=some (.int .i64 a):=(Md qb.out.2 0).trans rfl;have qj:=Mb qb.out.2 1;have qm:w9_.cell? ⟨g3,1,none⟩=some (.int .i64 c):=(Md qb.out.2 1).trans rfl;have qk:=Mb qb.out.2 2;have qn:w9_.cell? ⟨g3,2,none⟩=some (.slice yf xs.length yg):=(Md qb.out.2 2).trans rfl;have qr:=Mb qd.out.2 0;have qu:w9_.cell? ⟨g6,0,none⟩=some (.int .i64 0):=(Md qd.out.2 0).trans rfl;have qs:=Mb qd.out.2 1;have qv:w9_.cell? ⟨g6,1,none⟩=some (.int .i64 r2):=(Md qd.out.2 1).trans rfl;have qt:=Mb qd.out.2 2;have qw:w9_.cell? ⟨g6,2,none⟩=some (.slice AP ps.length cP):=(Md qd.out.2 2).trans rfl;clear qc)|(go_at_call 29;(with_reducible refine(laws_sameInts.calls k AP cP ps AW cW ps true _ ?se1_ HKP.out ?se2_ HKW.out HSM.out).mono ?_);(case se1_=>exact(by repeat(first|exact HCP.out|(with_reducible refine Me ?_ _)|(with_reducible refine Mf ?_ _)|(with_reducible refine Mc ?_))));(case se2_=>exact(by repeat(first|exact HCW.out|(with_reducible refine Me ?_ _)|(with_reducible refine Mf ?_ _)|(with_reducible refine Mc ?_))));rintro e wk_ ⟨rfl,⟨nd_,rfl⟩⟩))
   have hl_:=HL.out
   go_ret
   exact⟨by first|rfl|simp [hl_],(by repeat(first|(with_reducible first|exact HB.out|apply Mk|apply Mi|apply Mj)|exact HB.out))⟩
  ·obtain⟨e1_,e2_,hPK_,m1,m2,ms,hD3_⟩:=hT_ rfl
   clear hF_ hT_
   have HPK:=Ma hPK_
   have HD3:=Ma hD3_
   have HE1:=Ma e1_
   have HE2:=Ma e2_
   clear hPK_ hD3_ e1_ e2_
   go_upto_region 10 with (first|(go_at_call 36;(with_reducible refine(impl_Decode.calls k a c yf yg xs AB cB bs q r1 r2 ps true _ ?s1903 HKX.out ?s2903 HKB.out HD1.out).mono ?_);(case s1903=>exact(by repeat(first|exact HX.out|(with_reducible refine Me ?_ _)|(with_reducible refine Mf ?_ _)|(with_reducible refine Mc ?_))));(case s2903=>exact(by repeat(first|exact HCB.out|(with_reducible refine Me ?_ _)|(with_reducible refine Mf ?_ _)|(with_reducible refine Mc ?_))));rintro e wk_ ⟨v_,rfl,hr_,hb_⟩;obtain⟨AP,cP,rfl,hk_,hC_⟩:=Kd.R_reads hr_;have HCP:=Ma hC_;have HKP:=Ma hk_;clear hC_ hk_ hr_;have qe:=Ma (Blk.below (by repeat(first|(with_reducible first|exact qb.out|apply Blk.alloc|apply Blk.drewN|apply Blk.drew_)|exact qb.out)) hb_);have qf:=Ma (Mg (by repeat(first|exact HX.out|(with_reducible refine Me ?_ _)|(with_reducible refine Mf ?_ _)|(with_reducible refine Mc ?_))) hb_);have qg:=Ma (Mg (by repeat(first|exact HCB.out|(with_reducible refine Me ?_ _)|(with_reducible refine Mf ?_ _)|(with_reducible refine Mc ?_))) hb_);have mh_:=Ma (Mh (by repeat(first|(with_reducible first|exact HB.out|apply Mk|apply Mi|apply Mj)|exact HB.out)) hb_);clear HB qb HX HCB;have HB:=mh_;clear mh_;have qb:=qe;clear qe;have HX:=qf;clear qf;have HCB:=qg;clear qg;have qi:=Mb qb.out.2 0;have ql:wk_.cell? ⟨g3,0,none⟩=some (.int .i64 a):=(Md qb.out.2 0).trans rfl;have qj:=Mb qb.out.2 1;have qm:wk_.cell? ⟨g3,1,none⟩=some (.int .i64 c):=(Md qb.out.2 1).trans rfl;have qk:=Mb qb.out.2 2;have qn:wk_.cell? ⟨g3,2,none⟩=some (.slice yf xs.length yg):=(Md qb.out.2 2).trans rfl;clear hb_;skip)|((with_reducible refine gate_dst (N:=6) rfl ?_);refine box_event ?hg (N:=6) ?hd (cs:=#[.int .i64 0,.int .i64 0,.slice none 0 0]) (t:=27) ?hr ?_;(case hd=>rfl);(case hg=>rfl);(case hr=>first|(go_simp;done)|(go_simp;rfl));intro g6 hg_ w6_ hbox_ hb_;have hgeg6:=Ma (show _≤g6 from Nat.le_of_eq hg_.symm);have qd:=Ma (show Blk w w6_ g6 #[.int .i64 0,.int .i64 0,.slice none 0 0] from⟨by rw [hg_];exact Below.size (by repeat(first|(with_reducible first|exact HB.out|apply Mk|apply Mi|apply Mj)|exact HB.out)),hbox_⟩);have qc:=Ma hb_;clear hbox_ hg_ hb_;obtain⟨qz,hwn_⟩:∃ x_,x_=w6_:=⟨_,rfl⟩;subst hwn_;have qr:=Mb qd.out.2 0;have qu:qz.cell? ⟨g6,0,none⟩=some (.int .i64 0):=(Md qd.out.2 0).trans rfl;have qs:=Mb qd.out.2 1;have qv:qz.cell? ⟨g6,1,none⟩=some (.int .i64 0):=(Md qd.out.2 1).trans rfl;have qt:=Mb qd.out.2 2;have qw:qz.cell? ⟨g6,2,none⟩=some (.slice none 0 0):=(Md qd.out.2 2).trans rfl)|((with_reducible refine gate_store (t:=27) (p:=6) rfl ?_);refine store_event (t:=27) (p:=6) (v:=?vo904x_) (w1:=((qz.setCell ⟨g6,0,none⟩ (.int .i64 r1)).setCell ⟨g6,1,none⟩ (.int .i64 r2)).setCell ⟨g6,2,none⟩ (.slice AP ps.length cP)) ?hg ?ho ?hn ?hr ?_;(case ho=>rfl);(case hg=>rfl);(case hn=>rfl);(case hr=>first|(go_simp;done)|(go_simp;rfl));intro ws_ hw_;subst hw_;have m0_:=Ma (show Blk w _ g6 #[.int .i64 r1,.int .i64 r2,.slice AP ps.length cP] from qd.out.set3 (.int .i64 r1) (.int .i64 r2) (.slice AP ps.length cP));have mh_:=Ma (below_set3 qc.out hgeg6.out (.int .i64 r1) (.int .i64 r2) (.slice AP ps.length cP));clear qd qc;revert m0_ mh_;generalize (((qz.setCell ⟨g6,0,none⟩ (.int .i64 r1)).setCell ⟨g6,1,none⟩ (.int .i64 r2)).setCell ⟨g6,2,none⟩ (.slice AP ps.length cP))=w7_;intro qd qc;have qr:=Mb qd.out.2 0;have qu:w7_.cell? ⟨g6,0,none⟩=some (.int .i64 r1):=(Md qd.out.2 0).trans rfl;have qs:=Mb qd.out.2 1;have qv:w7_.cell? ⟨g6,1,none⟩=some (.int .i64 r2):=(Md qd.out.2 1).trans rfl;have qt:=Mb qd.out.2 2;have qw:w7_.cell? ⟨g6,2,none⟩=some (.slice AP ps.length cP):=(Md qd.out.2 2).trans rfl;have qe:=Ma (Blk.below (by repeat(first|(with_reducible first|exact qb.out|apply Blk.alloc|apply Blk.drewN|apply Blk.drew_)|exact qb.out)) qc.out);have qf:=Ma (Mg (by repeat(first|exact HX.out|(with_reducible refine Me ?_ _)|(with_reducible refine Mf ?_ _)|(with_reducible refine Mc ?_))) qc.out);have qg:=Ma (Mg (by repeat(first|exact HCB.out|(with_reducible refine Me ?_ _)|(with_reducible refine Mf ?_ _)|(with_reducible refine Mc ?_))) qc.out);have qo:=Ma (Mg (by repeat(first|exact HCP.out|(with_reducible refine Me ?_ _)|(with_reducible refine Mf ?_ _)|(with_reducible refine Mc ?_))) qc.out);have mh_:=Ma (Mh (by repeat(first|(with_reducible first|exact HB.out|apply Mk|apply Mi|apply Mj)|exact HB.out)) qc.out);clear HB qb HX HCB HCP;have HB:=mh_;clear mh_;have qb:=qe;clear qe;have HX:=qf;clear qf;have HCB:=qg;clear qg;have HCP:=qo;clear qo;have qi:=Mb qb.out.2 0;have ql:w7_.cell? ⟨g3,0,none⟩=some (.int .i64 a):=(Md qb.out.2 0).trans rfl;have qj:=Mb qb.out.2 1;have qm:w7_.cell? ⟨g3,1,none⟩=some (.int .i64 c):=(Md qb.out.2 1).trans rfl;have qk:=Mb qb.out.2 2;have qn:w7_.cell? ⟨g3,2,none⟩=some (.slice yf xs.length yg):=(Md qb.out.2 2).trans rfl;clear qc)|(go_at_call 34;(with_reducible refine(spec_Decode.calls k a c yf yg xs AB cB bs q r1 r2 ps true _ ?s1905 HKX.out ?s2905 HKB.out HD2.out).mono ?_);(case s1905=>exact(by repeat(first|exact HX.out|(with_reducible refine Me ?_ _)|(with_reducible refine Mf ?_ _)|(with_reducible refine Mc ?_))));(case s2905=>exact(by repeat(first|exact HCB.out|(with_reducible refine Me ?_ _)|(with_reducible refine Mf ?_ _)|(with_reducible refine Mc ?_))));rintro e wk_ ⟨v_,rfl,hr_,hb_⟩;obtain⟨AW,cW,rfl,hk_,hC_⟩:=Kd.R_reads hr_;have HCW:=Ma hC_;have HKW:=Ma hk_;clear hC_ hk_ hr_;have qe:=Ma (Blk.below (by repeat(first|(with_reducible first|exact qb.out|apply Blk.alloc|apply Blk.drewN|apply Blk.drew_)|exact qb.out)) hb_);have qx:=Ma (Blk.below (by repeat(first|(with_reducible first|exact qd.out|apply Blk.alloc|apply Blk.drewN|apply Blk.drew_)|exact qd.out)) hb_);have qf:=Ma (Mg (by repeat(first|exact HX.out|(with_reducible refine Me ?_ _)|(with_reducible refine Mf ?_ _)|(with_reducible refine Mc ?_))) hb_);have qg:=Ma (Mg (by repeat(first|exact HCB.out|(with_reducible refine Me ?_ _)|(with_reducible refine Mf ?_ _)|(with_reducible refine Mc ?_))) hb_);have qo:=Ma (Mg (by repeat(first|exact HCP.out|(with_reducible refine Me ?_ _)|(with_reducible refine Mf ?_ _)|(with_reducible refine Mc ?_))) hb_);have mh_:=Ma (Mh (by repeat(first|(with_reducible first|exact HB.out|apply Mk|apply Mi|apply Mj)|exact HB.out)) hb_);clear HB qb qd HX HCB HCP;have HB:=mh_;clear mh_;have qb:=qe;clear qe;have qd:=qx;clear qx;have HX:=qf;clear qf;have HCB:=qg;clear qg;have HCP:=qo;clear qo;have qi:=Mb qb.out.2 0;have ql:wk_.cell? ⟨g3,0,none⟩=some (.int .i64 a):=(Md qb.out.2 0).trans rfl;have qj:=Mb qb.out.2 1;have qm:wk_.cell? ⟨g3,1,none⟩=some (.int .i64 c):=(Md qb.out.2 1).trans rfl;have qk:=Mb qb.out.2 2;have qn:wk_.cell? ⟨g3,2,none⟩=some (.slice yf xs.length yg):=(Md qb.out.2 2).trans rfl;have qr:=Mb qd.out.2 0;have qu:wk_.cell? ⟨g6,0,none⟩=some (.int .i64 r1):=(Md qd.out.2 0).trans rfl;have qs:=Mb qd.out.2 1;have qv:wk_.cell? ⟨g6,1,none⟩=some (.int .i64 r2):=(Md qd.out.2 1).trans rfl;have qt:=Mb qd.out.2 2;have qw:wk_.cell? ⟨g6,2,none⟩=some (.slice AP ps.length cP):=(Md qd.out.2 2).trans rfl;clear hb_;skip)|((with_reducible refine gate_dst (N:=8) rfl ?_);refine box_event ?hg (N:=8) ?hd (cs:=#[.int .i64 0,.int .i64 0,.slice none 0 0]) (t:=27) ?hr ?_;(case hd=>rfl);(case hg=>rfl);(case hr=>first|(go_simp;done)|(go_simp;rfl));intro g8 hg_ w8_ hbox_ hb_;have hgeg8:=Ma (show _≤g8 from Nat.le_of_eq hg_.symm);have yc:=Ma (show Blk w w8_ g8 #[.int .i64 0,.int .i64 0,.slice none 0 0] from⟨by rw [hg_];exact Below.size (by repeat(first|(with_reducible first|exact HB.out|apply Mk|apply Mi|apply Mj)|exact HB.out)),hbox_⟩);have qc:=Ma hb_;clear hbox_ hg_ hb_;obtain⟨ya,hwn_⟩:∃ x_,x_=w8_:=⟨_,rfl⟩;subst hwn_;have hf0g8_:=Mb yc.out.2 0;have hz0g8_:ya.cell? ⟨g8,0,none⟩=some (.int .i64 0):=(Md yc.out.2 0).trans rfl;have hf1g8_:=Mb yc.out.2 1;have hz1g8_:ya.cell? ⟨g8,1,none⟩=some (.int .i64 0):=(Md yc.out.2 1).trans rfl;have hf2g8_:=Mb yc.out.2 2;have hz2g8_:ya.cell? ⟨g8,2,none⟩=some (.slice none 0 0):=(Md yc.out.2 2).trans rfl)|((with_reducible refine gate_store (t:=27) (p:=8) rfl ?_);refine store_event (t:=27) (p:=8) (v:=?vo906x_) (w1:=((ya.setCell ⟨g8,0,none⟩ (.int .i64 r1)).setCell ⟨g8,1,none⟩ (.int .i64 r2)).setCell ⟨g8,2,none⟩ (.slice AW ps.length cW)) ?hg ?ho ?hn ?hr ?_;(case ho=>rfl);(case hg=>rfl);(case hn=>rfl);(case hr=>first|(go_simp;done)|(go_simp;rfl));intro ws_ hw_;subst hw_;have m0_:=Ma (show Blk w _ g8 #[.int .i64 r1,.int .i64 r2,.slice AW ps.length cW] from yc.out.set3 (.int .i64 r1) (.int .i64 r2) (.slice AW ps.length cW));have mh_:=Ma (below_set3 qc.out hgeg8.out (.int .i64 r1) (.int .i64 r2) (.slice AW ps.length cW));clear yc qc;revert m0_ mh_;generalize (((ya.setCell ⟨g8,0,none⟩ (.int .i64 r1)).setCell ⟨g8,1,none⟩ (.int .i64 r2)).setCell ⟨g8,2,none⟩ (.slice AW ps.length cW))=w9_;intro yc qc;have hf0g8_:=Mb yc.out.2 0;have hz0g8_:w9_.cell? ⟨g8,0,none⟩=some (.int .i64 r1):=(Md yc.out.2 0).trans rfl;have hf1g8_:=Mb yc.out.2 1;have hz1g8_:w9_.cell? ⟨g8,1,none⟩=some (.int .i64 r2):=(Md yc.out.2 1).trans rfl;have hf2g8_:=Mb yc.out.2 2;have hz2g8_:w9_.cell? ⟨g8,2,none⟩=some (.slice AW ps.length cW):=(Md yc.out.2 2).trans rfl;have qe:=Ma (Blk.below (by repeat(first|(with_reducible first|exact qb.out|apply Blk.alloc|apply Blk.drewN|apply Blk.drew_)|exact qb.out)) qc.out);have qx:=Ma (Blk.below (by repeat(first|(with_reducible first|exact qd.out|apply Blk.alloc|apply Blk.drewN|apply Blk.drew_)|exact qd.out)) qc.out);have qf:=Ma (Mg (by repeat(first|exact HX.out|(with_reducible refine Me ?_ _)|(with_reducible refine Mf ?_ _)|(with_reducible refine Mc ?_))) qc.out);have qg:=Ma (Mg (by repeat(first|exact HCB.out|(with_reducible refine Me ?_ _)|(with_reducible refine Mf ?_ _)|(with_reducible refine Mc ?_))) qc.out);have qo:=Ma (Mg (by repeat(first|exact HCP.out|(with_reducible refine Me ?_ _)|(with_reducible refine Mf ?_ _)|(with_reducible refine Mc ?_))) qc.out);have mc3_:=Ma (Mg (by repeat(first|exact HCW.out|(with_reducible refine Me ?_ _)|(with_reducible refine Mf ?_ _)|(with_reducible refine Mc ?_))) qc.out);have mh_:=Ma (Mh (by repeat(first|(with_reducible first|exact HB.out|apply Mk|apply Mi|apply Mj)|exact HB.out)) qc.out);clear HB qb qd HX HCB HCP HCW;have HB:=mh_;clear mh_;have qb:=qe;clear qe;have qd:=qx;clear qx;have HX:=qf;clear qf;have HCB:=qg;clear qg;have HCP:=qo;clear qo;have HCW:=mc3_;clear mc3_;have qi:=Mb qb.out.2 0;have ql:w9_.cell? ⟨g3,0,none⟩=some (.int .i64 a):=(Md qb.out.2 0).trans rfl;have qj:=Mb qb.out.2 1;have qm:w9_.cell? ⟨g3,1,none⟩=some (.int .i64 c):=(Md qb.out.2 1).trans rfl;have qk:=Mb qb.out.2 2;have qn:w9_.cell? ⟨g3,2,none⟩=some (.slice yf xs.length yg):=(Md qb.out.2 2).trans rfl;have qr:=Mb qd.out.2 0;have qu:w9_.cell? ⟨g6,0,none⟩=some (.int .i64 r1):=(Md qd.out.2 0).trans rfl;have qs:=Mb qd.out.2 1;have qv:w9_.cell? ⟨g6,1,none⟩=some (.int .i64 r2):=(Md qd.out.2 1).trans rfl;have qt:=Mb qd.out.2 2;have qw:w9_.cell? ⟨g6,2,none⟩=some (.slice AP ps.length cP):=(Md qd.out.2 2).trans rfl;clear qc)|(go_at_call 29;(with_reducible refine(laws_sameInts.calls k AP cP ps AW cW ps true _ ?se1_ HKP.out ?se2_ HKW.out HSM.out).mono ?_);(case se1_=>exact(by repeat(first|exact HCP.out|(with_reducible refine Me ?_ _)|(with_reducible refine Mf ?_ _)|(with_reducible refine Mc ?_))));(case se2_=>exact(by repeat(first|exact HCW.out|(with_reducible refine Me ?_ _)|(with_reducible refine Mf ?_ _)|(with_reducible refine Mc ?_))));rintro e wk_ ⟨rfl,⟨nd_,rfl⟩⟩))
   refine start10 (n:=14) #[false,false,false,false,false,false,false,false,false,false,false,false,false,false] (by kernel_rfl) rfl rfl (fun wr hb_=>?_)
   refine with_tabW laws_FnDecoded.tab10 laws_FnDecoded.bits10 (fun HT_ HW_=>?_)
   have qe:=Ma (Blk.below (by repeat(first|(with_reducible first|exact qb.out|apply Blk.alloc|apply Blk.drewN|apply Blk.drew_)|exact qb.out)) hb_)
   have qx:=Ma (Blk.below (by repeat(first|(with_reducible first|exact qd.out|apply Blk.alloc|apply Blk.drewN|apply Blk.drew_)|exact qd.out)) hb_)
   have qf:=Ma (Mg (by repeat(first|exact HX.out|(with_reducible refine Me ?_ _)|(with_reducible refine Mf ?_ _)|(with_reducible refine Mc ?_))) hb_)
   have qg:=Ma (Mg (by repeat(first|exact HCB.out|(with_reducible refine Me ?_ _)|(with_reducible refine Mf ?_ _)|(with_reducible refine Mc ?_))) hb_)
   have qo:=Ma (Mg (by repeat(first|exact HCP.out|(with_reducible refine Me ?_ _)|(with_reducible refine Mf ?_ _)|(with_reducible refine Mc ?_))) hb_)
   have mh_:=Ma (Mh (by repeat(first|(with_reducible first|exact HB.out|apply Mk|apply Mi|apply Mj)|exact HB.out)) hb_)
   clear HB qb qd HX HCB HCP
   have HB:=mh_
   clear mh_
   have qb:=qe
   clear qe
   have qd:=qx
   clear qx
   have HX:=qf
   clear qf
   have HCB:=qg
   clear qg
   have HCP:=qo
   clear qo
   have qi:=Mb qb.out.2 0
   have ql:wr.cell? ⟨g3,0,none⟩=some (.int .i64 a):=(Md qb.out.2 0).trans rfl
   have qj:=Mb qb.out.2 1
   have qm:wr.cell? ⟨g3,1,none⟩=some (.int .i64 c):=(Md qb.out.2 1).trans rfl
   have qk:=Mb qb.out.2 2
   have qn:wr.cell? ⟨g3,2,none⟩=some (.slice yf xs.length yg):=(Md qb.out.2 2).trans rfl
   have qr:=Mb qd.out.2 0
   have qu:wr.cell? ⟨g6,0,none⟩=some (.int .i64 r1):=(Md qd.out.2 0).trans rfl
   have qs:=Mb qd.out.2 1
   have qv:wr.cell? ⟨g6,1,none⟩=some (.int .i64 r2):=(Md qd.out.2 1).trans rfl
   have qt:=Mb qd.out.2 2
   have qw:wr.cell? ⟨g6,2,none⟩=some (.slice AP ps.length cP):=(Md qd.out.2 2).trans rfl
   clear hb_
   have qa:Below wr.heap.size wr wr:=Below.refl _ _
   refine pure_ (i:=2) (N:=some 59) (v:=?_) (a':=?_) #[false,false,true,false,false,false,false,false,false,false,false,false,false,false] rfl rfl (any_of HT_.out (by kernel_rfl)) (fun _ _ _ h=>h) (Or.inl ⟨by rfl,?_⟩) ?_ ?_
   rotate_left
   ·intro w'
    go_simp
    with_reducible rfl
   rotate_left
   ·simp only [Act.put,List.setIfInBounds_toArray,List.set_cons_zero,List.set_cons_succ,i64_w,i32_w]
    rfl
   refine pure_ (i:=6) (N:=some 63) (v:=?_) (a':=?_) #[false,false,true,false,false,false,true,false,false,false,false,false,false,false] rfl rfl (any_of HT_.out (by kernel_rfl)) (fun _ _ _ h=>h) (Or.inl ⟨by rfl,?_⟩) ?_ ?_
   rotate_left
   ·intro w'
    go_simp
    with_reducible rfl
   rotate_left
   ·simp only [Act.put,List.setIfInBounds_toArray,List.set_cons_zero,List.set_cons_succ,i64_w,i32_w]
    rfl
   refine take_ (i:=0) (N:=some 57) (v:=?_) (a':=?_) #[true,false,true,false,false,false,true,false,false,false,false,false,false,false] rfl rfl (take_ofW HT_.out HW_.out (by kernel_rfl)) (fun _ _ _ h=>h) (Or.inl ⟨by rfl,?_⟩) qa ?_ ?_
   rotate_left
   ·intro w' s0
    have hB_:=Blk.below qb.out s0
    have hf0q_:=Mb (Ma hB_).out.2 0
    have hz0q_:w'.cell? ⟨g3,0,none⟩=some (.int .i64 a):=(Md (Ma hB_).out.2 0).trans rfl
    have hf1q_:=Mb (Ma hB_).out.2 1
    have hz1q_:w'.cell? ⟨g3,1,none⟩=some (.int .i64 c):=(Md (Ma hB_).out.2 1).trans rfl
    have hf2q_:=Mb (Ma hB_).out.2 2
    have hz2q_:w'.cell? ⟨g3,2,none⟩=some (.slice yf xs.length yg):=(Md (Ma hB_).out.2 2).trans rfl
    go_simp
    with_reducible rfl
   rotate_left
   ·simp only [Act.put,List.setIfInBounds_toArray,List.set_cons_zero,List.set_cons_succ,i64_w,i32_w]
    rfl
   refine join_ (σ:=Value × Value × Value × Value × Value × Nat) 2 #[true,true,true,true,true,true,true,true,true,true,true,true,false,false] (fun s_=>[(58,s_.1),(60,s_.2.1),(61,s_.2.2.1),(62,s_.2.2.2.1),(64,.tuple #[.agg #[.int .i64 m1,.int .i64 m2,s_.2.2.2.2.1],.bool false]),(56,.tuple #[.agg #[.int .i64 m1,.int .i64 m2,s_.2.2.2.2.1],.bool false]),(65,.agg #[.int .i64 m1,.int .i64 m2,s_.2.2.2.2.1]),(66,.bool false),(10,.pointer (some ⟨s_.2.2.2.2.2,0,none⟩))]) (fun s_ w'=>Below wr.heap.size wr w'∧(Kd.R (Kd.int .i64) 2 w' wr.heap.size (fun _=>True) s_.2.2.2.2.1 ms)∧(Blk wr w' s_.2.2.2.2.2 #[.int .i64 0,.int .i64 0,.slice none 0 0])) ?_ ?_
   rotate_left
   ·intro qy
    refine join_ (σ:=Value × Value × Value × Value × Value) 3 #[true,true,true,true,true,true,true,true,true,true,true,false,false,false] (fun s_=>[(58,s_.1),(60,s_.2.1),(61,s_.2.2.1),(62,s_.2.2.2.1),(64,.tuple #[.agg #[.int .i64 m1,.int .i64 m2,s_.2.2.2.2],.bool false]),(56,.tuple #[.agg #[.int .i64 m1,.int .i64 m2,s_.2.2.2.2],.bool false]),(65,.agg #[.int .i64 m1,.int .i64 m2,s_.2.2.2.2]),(66,.bool false)]) (fun s_ w'=>Below wr.heap.size wr w'∧(Kd.R (Kd.int .i64) 2 w' wr.heap.size (fun _=>True) s_.2.2.2.2 ms)) ?_ ?_
    rotate_left
    ·intro hJ1_3_4_5_7
     refine join_ (σ:=Value × Value × Value × Value × Nat) 6 #[true,true,true,true,true,true,true,false,false,false,false,true,false,false] (fun s_=>[(58,s_.1),(60,s_.2.1),(61,s_.2.2.1),(62,s_.2.2.2.1),(10,.pointer (some ⟨s_.2.2.2.2,0,none⟩))]) (fun s_ w'=>Below wr.heap.size wr w'∧(Kd.R (Kd.int .u8) 5 w' wr.heap.size (fun _=>True) s_.2.2.2.1 (bs ++ [0]))∧(Blk wr w' s_.2.2.2.2 #[.int .i64 0,.int .i64 0,.slice none 0 0])) ?_ ?_
     rotate_left
     ·intro ye
      refine join_ (σ:=Value × Value × Value × Value) 7 #[true,true,true,true,true,true,true,false,false,false,false,false,false,false] (fun s_=>[(58,s_.1),(60,s_.2.1),(61,s_.2.2.1),(62,s_.2.2.2)]) (fun s_ w'=>Below wr.heap.size wr w'∧(Kd.R (Kd.int .u8) 5 w' wr.heap.size (fun _=>True) s_.2.2.2 (bs ++ [0]))) ?_ ?_
      rotate_left
      ·intro hJ1_3_4_5
       refine join_ (σ:=Value × Value × Value × Nat) 7 #[true,true,true,true,true,false,true,false,false,false,false,true,false,false] (fun s_=>[(58,s_.1),(60,s_.2.1),(61,s_.2.2.1),(10,.pointer (some ⟨s_.2.2.2,0,none⟩))]) (fun s_ w'=>Below wr.heap.size wr w'∧(Kd.R (Kd.int .u8) 5 w' wr.heap.size (fun k_=>some k_≠(s_.2.2.1:Value).ownBlock) s_.2.1 bs)∧(Kd.R (Kd.int .u8) 5 w' wr.heap.size (fun k_=>some k_≠(s_.2.1:Value).ownBlock) s_.2.2.1 [0])∧(Blk wr w' s_.2.2.2 #[.int .i64 0,.int .i64 0,.slice none 0 0])) ?_ ?_
       rotate_left
       ·intro yd
        refine join_ (σ:=Value × Value × Value) 8 #[true,true,true,true,true,false,true,false,false,false,false,false,false,false] (fun s_=>[(58,s_.1),(60,s_.2.1),(61,s_.2.2)]) (fun s_ w'=>Below wr.heap.size wr w'∧(Kd.R (Kd.int .u8) 5 w' wr.heap.size (fun k_=>some k_≠(s_.2.2:Value).ownBlock) s_.2.1 bs)∧(Kd.R (Kd.int .u8) 5 w' wr.heap.size (fun k_=>some k_≠(s_.2.1:Value).ownBlock) s_.2.2 [0])) ?_ ?_
        rotate_left
        ·intro hJ1_3_4
         refine join_ (σ:=Value × Value × Nat) 8 #[true,true,true,true,false,false,true,false,false,false,false,true,false,false] (fun s_=>[(58,s_.1),(60,s_.2.1),(10,.pointer (some ⟨s_.2.2,0,none⟩))]) (fun s_ w'=>Below wr.heap.size wr w'∧(Kd.R (Kd.int .u8) 5 w' wr.heap.size (fun k_=>True) s_.2.1 bs)∧(Blk wr w' s_.2.2 #[.int .i64 0,.int .i64 0,.slice none 0 0])) ?_ ?_
         rotate_left
         ·intro hJ1_3_11
          refine join_ (σ:=Value × Value × Nat) 8 #[true,true,true,false,true,false,true,false,false,false,false,true,false,false] (fun s_=>[(58,s_.1),(61,s_.2.1),(10,.pointer (some ⟨s_.2.2,0,none⟩))]) (fun s_ w'=>Below wr.heap.size wr w'∧(Kd.R (Kd.int .u8) 5 w' wr.heap.size (fun k_=>some k_≠(s_.2.1:Value).ownBlock) s_.1 [])∧(Kd.R (Kd.int .u8) 5 w' wr.heap.size (fun k_=>some k_≠(s_.1:Value).ownBlock) s_.2.1 [0])∧(Blk wr w' s_.2.2 #[.int .i64 0,.int .i64 0,.slice none 0 0])) ?_ ?_
          rotate_left
          ·intro yh
           refine join_ (σ:=Value × Value) 9 #[true,true,true,true,false,false,true,false,false,false,false,false,false,false] (fun s_=>[(58,s_.1),(60,s_.2)]) (fun s_ w'=>Below wr.heap.size wr w'∧(Kd.R (Kd.int .u8) 5 w' wr.heap.size (fun k_=>True) s_.2 bs)) ?_ ?_
           rotate_left
           ·intro hJ1_3
            refine join_ (σ:=Value × Value) 9 #[true,true,true,false,true,false,true,false,false,false,false,false,false,false] (fun s_=>[(58,s_.1),(61,s_.2)]) (fun s_ w'=>Below wr.heap.size wr w'∧(Kd.R (Kd.int .u8) 5 w' wr.heap.size (fun k_=>some k_≠(s_.2:Value).ownBlock) s_.1 [])∧(Kd.R (Kd.int .u8) 5 w' wr.heap.size (fun k_=>some k_≠(s_.1:Value).ownBlock) s_.2 [0])) ?_ ?_
            rotate_left
            ·intro hJ1_4
             refine join_ (σ:=Value × Nat) 9 #[true,true,true,false,false,false,true,false,false,false,false,true,false,false] (fun s_=>[(58,s_.1),(10,.pointer (some ⟨s_.2,0,none⟩))]) (fun s_ w'=>Below wr.heap.size wr w'∧(Kd.R (Kd.int .u8) 5 w' wr.heap.size (fun k_=>True) s_.1 [])∧(Blk wr w' s_.2 #[.int .i64 0,.int .i64 0,.slice none 0 0])) ?_ ?_
             rotate_left
             ·intro hJ1_11
              refine join_ (σ:=Value × Nat) 9 #[true,false,true,false,true,false,true,false,false,false,false,true,false,false] (fun s_=>[(61,s_.1),(10,.pointer (some ⟨s_.2,0,none⟩))]) (fun s_ w'=>Below wr.heap.size wr w'∧(Kd.R (Kd.int .u8) 5 w' wr.heap.size (fun k_=>True) s_.1 [0])∧(Blk wr w' s_.2 #[.int .i64 0,.int .i64 0,.slice none 0 0])) ?_ ?_
              rotate_left
              ·intro hJ4_11
               refine join_ (σ:=Value) 10 #[true,true,true,false,false,false,true,false,false,false,false,false,false,false] (fun s_=>[(58,s_)]) (fun s_ w'=>Below wr.heap.size wr w'∧(Kd.R (Kd.int .u8) 5 w' wr.heap.size (fun k_=>True) s_ [])) ?_ ?_
               rotate_left
               ·intro hJ1
                refine join_ (σ:=Value) 10 #[true,false,true,false,true,false,true,false,false,false,false,false,false,false] (fun s_=>[(61,s_)]) (fun s_ w'=>Below wr.heap.size wr w'∧(Kd.R (Kd.int .u8) 5 w' wr.heap.size (fun k_=>True) s_ [0])) ?_ ?_
                rotate_left
                ·intro hJ4
                 refine join_ (σ:=Nat) 10 #[true,false,true,false,false,false,true,false,false,false,false,true,false,false] (fun s_=>[(10,.pointer (some ⟨s_,0,none⟩))]) (fun s_ w'=>Below wr.heap.size wr w'∧(Blk wr w' s_ #[.int .i64 0,.int .i64 0,.slice none 0 0])) ?_ ?_
                 rotate_left
                 ·intro hJ11
                  refine three_ (i:=1) (j:=4) (k:=11) (Ni:=some 58) (Nj:=some 61) (Nk:=some 10) #[true,true,true,false,false,false,true,false,false,false,false,false,false,false] #[true,false,true,false,true,false,true,false,false,false,false,false,false,false] #[true,false,true,false,false,false,true,false,false,false,false,true,false,false] rfl rfl rfl rfl rfl rfl (three_of HT_.out (by kernel_rfl)) (by decide) (by decide) (by decide) (fun K hK=>?_) (fun K hK=>?_) (fun K hK=>?_)
                  ·skip
                   refine Kd.R_lit_step (Kd.int .u8) _ 5 ?hg (N:=58) ?hd (xs:=([]:List Int)) (inner:=[]) (ok:=fun _=>True) (okp:=fun _=>True) ?hr ?hp (fun _ hk=>hk) trivial (Below.refl _ _) (Nat.le_refl _) (by simp) ?_;(case hd=>rfl);(case hg=>rfl);(case hr=>first|(go_simp;done)|(go_simp;rfl));(case hp=>exact(Reps.none _ _))
                   intro qp W2 ho hb hg_ hnew_
                   clear hg_ hnew_
                   have PB:=Kd.R_lower ho (Below.size qa)
                   replace qa:=Mh qa hb
                   clear hb ho
                   refine hK.out _ _ qa (fun _=>?_)
                   clear hK K
                   refine norm_ (a':=?_) ?_ ?_
                   rotate_left
                   ·show Act.put _ (some 58) _=_
                    simp only [Act.put,List.setIfInBounds_toArray,List.set_cons_zero,List.set_cons_succ,i64_w,i32_w]
                    rfl
                   exact norm_ (by first|(simp only [putAll,Act.put,List.setIfInBounds_toArray,List.set_cons_zero,List.set_cons_succ];done)|(simp only [putAll,Act.put,List.setIfInBounds_toArray,List.set_cons_zero,List.set_cons_succ];rfl)) (hJ1 qp _ ⟨qa,PB⟩)
                  ·skip
                   refine Kd.R_lit_step (Kd.int .u8) _ 5 ?hg (N:=61) ?hd (xs:=([0]:List Int)) (inner:=[.int .u8 0]) (ok:=fun _=>True) (okp:=fun _=>True) ?hr ?hp (fun _ hk=>hk) trivial (Below.refl _ _) (Nat.le_refl _) (by simp) ?_;(case hd=>rfl);(case hg=>rfl);(case hr=>first|(go_simp;done)|(go_simp;rfl));(case hp=>exact(Reps.one (show Kd.M (Kd.int .u8) _ _ _ 0 [.int .u8 0] from rfl) (Reps.none _ _)))
                   intro qq W2 ho hb hg_ hnew_
                   clear hg_ hnew_
                   have PL:=Kd.R_lower ho (Below.size qa)
                   replace qa:=Mh qa hb
                   clear hb ho
                   refine hK.out _ _ qa (fun _=>?_)
                   clear hK K
                   refine norm_ (a':=?_) ?_ ?_
                   rotate_left
                   ·show Act.put _ (some 61) _=_
                    simp only [Act.put,List.setIfInBounds_toArray,List.set_cons_zero,List.set_cons_succ,i64_w,i32_w]
                    rfl
                   exact norm_ (by first|(simp only [putAll,Act.put,List.setIfInBounds_toArray,List.set_cons_zero,List.set_cons_succ];done)|(simp only [putAll,Act.put,List.setIfInBounds_toArray,List.set_cons_zero,List.set_cons_succ];rfl)) (hJ4 qq _ ⟨qa,PL⟩)
                  ·skip
                   refine box_step ?hg (N:=10) ?hd (cs:=#[.int .i64 0,.int .i64 0,.slice none 0 0]) (t:=27) ?hr ?_;(case hd=>rfl);(case hg=>rfl);(case hr=>first|(go_simp;done)|(go_simp;rfl))
                   intro qh hg W2 hbox hb
                   have PZ:Blk wr W2 qh #[.int .i64 0,.int .i64 0,.slice none 0 0]:=⟨by rw [hg];exact Below.size qa,hbox⟩
                   replace qa:=Mh qa hb
                   clear hb hg hbox
                   refine hK.out _ _ qa (fun _=>?_)
                   clear hK K
                   refine norm_ (a':=?_) ?_ ?_
                   rotate_left
                   ·show Act.put _ (some 10) _=_
                    simp only [Act.put,List.setIfInBounds_toArray,List.set_cons_zero,List.set_cons_succ,i64_w,i32_w]
                    rfl
                   exact norm_ (by first|(simp only [putAll,Act.put,List.setIfInBounds_toArray,List.set_cons_zero,List.set_cons_succ];done)|(simp only [putAll,Act.put,List.setIfInBounds_toArray,List.set_cons_zero,List.set_cons_succ];rfl)) (hJ11 qh _ ⟨qa,PZ⟩)
                 ·skip
                  rintro qh W ⟨qa,PZ⟩
                  replace PZ:Blk wr W qh #[.int .i64 0,.int .i64 0,.slice none 0 0]:=PZ
                  replace qa:Below wr.heap.size wr W:=qa
                  refine norm_ (a':=?_) ?_ ?_
                  rotate_left
                  ·simp only [putAll,Act.put,List.setIfInBounds_toArray,List.set_cons_zero,List.set_cons_succ]
                   rfl
                  refine two_ (i:=1) (j:=4) (Ni:=some 58) (Nj:=some 61) #[true,true,true,false,false,false,true,false,false,false,false,true,false,false] #[true,false,true,false,true,false,true,false,false,false,false,true,false,false] rfl rfl rfl rfl (two_of HT_.out (by kernel_rfl)) (by decide) (by decide) (fun K hK=>?_) (fun K hK=>?_)
                  ·skip
                   refine Kd.R_lit_step (Kd.int .u8) _ 5 ?hg (N:=58) ?hd (xs:=([]:List Int)) (inner:=[]) (ok:=fun _=>True) (okp:=fun _=>True) ?hr ?hp (fun _ hk=>hk) trivial (Below.refl _ _) (Nat.le_refl _) (by simp) ?_;(case hd=>rfl);(case hg=>rfl);(case hr=>first|(go_simp;done)|(go_simp;rfl));(case hp=>exact(Reps.none _ _))
                   intro qp W2 ho hb hg_ hnew_
                   clear hg_ hnew_
                   have PB:=Kd.R_lower ho (Below.size qa)
                   replace PZ:=Blk.below PZ hb
                   replace qa:=Mh qa hb
                   clear hb ho
                   refine hK.out _ _ qa (fun _=>?_)
                   clear hK K
                   refine norm_ (a':=?_) ?_ ?_
                   rotate_left
                   ·show Act.put _ (some 58) _=_
                    simp only [Act.put,List.setIfInBounds_toArray,List.set_cons_zero,List.set_cons_succ,i64_w,i32_w]
                    rfl
                   exact norm_ (by first|(simp only [putAll,Act.put,List.setIfInBounds_toArray,List.set_cons_zero,List.set_cons_succ];done)|(simp only [putAll,Act.put,List.setIfInBounds_toArray,List.set_cons_zero,List.set_cons_succ];rfl)) (hJ1_11 (qp,qh) _ ⟨qa,PB,PZ⟩)
                  ·skip
                   refine Kd.R_lit_step (Kd.int .u8) _ 5 ?hg (N:=61) ?hd (xs:=([0]:List Int)) (inner:=[.int .u8 0]) (ok:=fun _=>True) (okp:=fun _=>True) ?hr ?hp (fun _ hk=>hk) trivial (Below.refl _ _) (Nat.le_refl _) (by simp) ?_;(case hd=>rfl);(case hg=>rfl);(case hr=>first|(go_simp;done)|(go_simp;rfl));(case hp=>exact(Reps.one (show Kd.M (Kd.int .u8) _ _ _ 0 [.int .u8 0] from rfl) (Reps.none _ _)))
                   intro qq W2 ho hb hg_ hnew_
                   clear hg_ hnew_
                   have PL:=Kd.R_lower ho (Below.size qa)
                   replace PZ:=Blk.below PZ hb
                   replace qa:=Mh qa hb
                   clear hb ho
                   refine hK.out _ _ qa (fun _=>?_)
                   clear hK K
                   refine norm_ (a':=?_) ?_ ?_
                   rotate_left
                   ·show Act.put _ (some 61) _=_
                    simp only [Act.put,List.setIfInBounds_toArray,List.set_cons_zero,List.set_cons_succ,i64_w,i32_w]
                    rfl
                   exact norm_ (by first|(simp only [putAll,Act.put,List.setIfInBounds_toArray,List.set_cons_zero,List.set_cons_succ];done)|(simp only [putAll,Act.put,List.setIfInBounds_toArray,List.set_cons_zero,List.set_cons_succ];rfl)) (hJ4_11 (qq,qh) _ ⟨qa,PL,PZ⟩)
                ·skip
                 rintro qq W ⟨qa,PL⟩
                 replace PL:Kd.R (Kd.int .u8) 5 W wr.heap.size (fun k_=>True) qq [0]:=PL
                 replace qa:Below wr.heap.size wr W:=qa
                 refine norm_ (a':=?_) ?_ ?_
                 rotate_left
                 ·simp only [putAll,Act.put,List.setIfInBounds_toArray,List.set_cons_zero,List.set_cons_succ]
                  rfl
                 refine two_ (i:=1) (j:=11) (Ni:=some 58) (Nj:=some 10) #[true,true,true,false,true,false,true,false,false,false,false,false,false,false] #[true,false,true,false,true,false,true,false,false,false,false,true,false,false] rfl rfl rfl rfl (two_of HT_.out (by kernel_rfl)) (by decide) (by decide) (fun K hK=>?_) (fun K hK=>?_)
                 ·skip
                  refine Kd.R_lit_step (Kd.int .u8) _ 5 ?hg (N:=58) ?hd (xs:=([]:List Int)) (inner:=[]) (ok:=fun _=>True) (okp:=fun _=>True) ?hr ?hp (fun _ hk=>hk) trivial (Below.refl _ _) (Nat.le_refl _) (by simp) ?_;(case hd=>rfl);(case hg=>rfl);(case hr=>first|(go_simp;done)|(go_simp;rfl));(case hp=>exact(Reps.none _ _))
                  intro qp W2 ho hb hg_ hnew_
                  clear hg_ hnew_
                  have PB:=Kd.R_mono (Kd.R_lower (Kd.R_new' ho (Kd.R_lt PL)) (Below.size qa)) (fun _ h_=>h_.2)
                  replace PL:=Kd.R_mono (Kd.R_elder' PL (Kd.R_base ho) hb) (fun _ h_=>h_.2)
                  replace qa:=Mh qa hb
                  clear hb ho
                  refine hK.out _ _ qa (fun _=>?_)
                  clear hK K
                  refine norm_ (a':=?_) ?_ ?_
                  rotate_left
                  ·show Act.put _ (some 58) _=_
                   simp only [Act.put,List.setIfInBounds_toArray,List.set_cons_zero,List.set_cons_succ,i64_w,i32_w]
                   rfl
                  exact norm_ (by first|(simp only [putAll,Act.put,List.setIfInBounds_toArray,List.set_cons_zero,List.set_cons_succ];done)|(simp only [putAll,Act.put,List.setIfInBounds_toArray,List.set_cons_zero,List.set_cons_succ];rfl)) (hJ1_4 (qp,qq) _ ⟨qa,PB,PL⟩)
                 ·skip
                  refine box_step ?hg (N:=10) ?hd (cs:=#[.int .i64 0,.int .i64 0,.slice none 0 0]) (t:=27) ?hr ?_;(case hd=>rfl);(case hg=>rfl);(case hr=>first|(go_simp;done)|(go_simp;rfl))
                  intro qh hg W2 hbox hb
                  have PZ:Blk wr W2 qh #[.int .i64 0,.int .i64 0,.slice none 0 0]:=⟨by rw [hg];exact Below.size qa,hbox⟩
                  replace PL:=Kd.R_below PL hb
                  replace qa:=Mh qa hb
                  clear hb hg hbox
                  refine hK.out _ _ qa (fun _=>?_)
                  clear hK K
                  refine norm_ (a':=?_) ?_ ?_
                  rotate_left
                  ·show Act.put _ (some 10) _=_
                   simp only [Act.put,List.setIfInBounds_toArray,List.set_cons_zero,List.set_cons_succ,i64_w,i32_w]
                   rfl
                  exact norm_ (by first|(simp only [putAll,Act.put,List.setIfInBounds_toArray,List.set_cons_zero,List.set_cons_succ];done)|(simp only [putAll,Act.put,List.setIfInBounds_toArray,List.set_cons_zero,List.set_cons_succ];rfl)) (hJ4_11 (qq,qh) _ ⟨qa,PL,PZ⟩)
               ·skip
                rintro qp W ⟨qa,PB⟩
                replace PB:Kd.R (Kd.int .u8) 5 W wr.heap.size (fun k_=>True) qp []:=PB
                replace qa:Below wr.heap.size wr W:=qa
                refine norm_ (a':=?_) ?_ ?_
                rotate_left
                ·simp only [putAll,Act.put,List.setIfInBounds_toArray,List.set_cons_zero,List.set_cons_succ]
                 rfl
                refine three_ (i:=3) (j:=4) (k:=11) (Ni:=some 60) (Nj:=some 61) (Nk:=some 10) #[true,true,true,true,false,false,true,false,false,false,false,false,false,false] #[true,true,true,false,true,false,true,false,false,false,false,false,false,false] #[true,true,true,false,false,false,true,false,false,false,false,true,false,false] rfl rfl rfl rfl rfl rfl (three_of HT_.out (by kernel_rfl)) (by decide) (by decide) (by decide) (fun K hK=>?_) (fun K hK=>?_) (fun K hK=>?_)
                ·skip
                 refine Kd.R_append_rows_step (Kd.int .u8) (w0:=wr) wr.heap.size (by rfl) (.tmp 58) (.tmp 59) 37 5 (.int .u8 0) 1 rfl Try.underlying37 finfo8 rfl (by decide) (by decide) qp [] bs _ _ _ (fun _=>True) (fun _=>False) rfl rfl ?aO ?aR (fun _ _ h=>h) (fun _ h=>h.elim) ?aF qa (Below.size qa) ?aL ?_
                 (case aR=>exact Mg HCB.out qa)
                 (case aF=>exact(fun k_ hk=>trivial))
                 (case aO=>exact PB)
                 (case aL=>have h_:=HLB.out;simp only [List.length_nil,List.length_cons];omega)
                 intro yb W2 ho hb hg hat
                 rw [List.nil_append] at ho
                 clear PB
                 have PB:=ho
                 replace qa:=hb
                 clear hb hg hat ho
                 refine hK.out _ _ qa (fun _=>?_)
                 clear hK K
                 refine norm_ (a':=?_) ?_ ?_
                 rotate_left
                 ·show Act.put _ (some 60) _=_
                  simp only [Act.put,List.setIfInBounds_toArray,List.set_cons_zero,List.set_cons_succ,i64_w,i32_w]
                  rfl
                 exact norm_ (by first|(simp only [putAll,Act.put,List.setIfInBounds_toArray,List.set_cons_zero,List.set_cons_succ];done)|(simp only [putAll,Act.put,List.setIfInBounds_toArray,List.set_cons_zero,List.set_cons_succ];rfl)) (hJ1_3 (qp,yb) _ ⟨qa,PB⟩)
                ·skip
                 refine Kd.R_lit_step (Kd.int .u8) _ 5 ?hg (N:=61) ?hd (xs:=([0]:List Int)) (inner:=[.int .u8 0]) (ok:=fun _=>True) (okp:=fun _=>True) ?hr ?hp (fun _ hk=>hk) trivial (Below.refl _ _) (Nat.le_refl _) (by simp) ?_;(case hd=>rfl);(case hg=>rfl);(case hr=>first|(go_simp;done)|(go_simp;rfl));(case hp=>exact(Reps.one (show Kd.M (Kd.int .u8) _ _ _ 0 [.int .u8 0] from rfl) (Reps.none _ _)))
                 intro qq W2 ho hb hg_ hnew_
                 clear hg_ hnew_
                 have PL:=Kd.R_mono (Kd.R_lower (Kd.R_new' ho (Kd.R_lt PB)) (Below.size qa)) (fun _ h_=>h_.2)
                 replace PB:=Kd.R_mono (Kd.R_elder' PB (Kd.R_base ho) hb) (fun _ h_=>h_.2)
                 replace qa:=Mh qa hb
                 clear hb ho
                 refine hK.out _ _ qa (fun _=>?_)
                 clear hK K
                 refine norm_ (a':=?_) ?_ ?_
                 rotate_left
                 ·show Act.put _ (some 61) _=_
                  simp only [Act.put,List.setIfInBounds_toArray,List.set_cons_zero,List.set_cons_succ,i64_w,i32_w]
                  rfl
                 exact norm_ (by first|(simp only [putAll,Act.put,List.setIfInBounds_toArray,List.set_cons_zero,List.set_cons_succ];done)|(simp only [putAll,Act.put,List.setIfInBounds_toArray,List.set_cons_zero,List.set_cons_succ];rfl)) (hJ1_4 (qp,qq) _ ⟨qa,PB,PL⟩)
                ·skip
                 refine box_step ?hg (N:=10) ?hd (cs:=#[.int .i64 0,.int .i64 0,.slice none 0 0]) (t:=27) ?hr ?_;(case hd=>rfl);(case hg=>rfl);(case hr=>first|(go_simp;done)|(go_simp;rfl))
                 intro qh hg W2 hbox hb
                 have PZ:Blk wr W2 qh #[.int .i64 0,.int .i64 0,.slice none 0 0]:=⟨by rw [hg];exact Below.size qa,hbox⟩
                 replace PB:=Kd.R_below PB hb
                 replace qa:=Mh qa hb
                 clear hb hg hbox
                 refine hK.out _ _ qa (fun _=>?_)
                 clear hK K
                 refine norm_ (a':=?_) ?_ ?_
                 rotate_left
                 ·show Act.put _ (some 10) _=_
                  simp only [Act.put,List.setIfInBounds_toArray,List.set_cons_zero,List.set_cons_succ,i64_w,i32_w]
                  rfl
                 exact norm_ (by first|(simp only [putAll,Act.put,List.setIfInBounds_toArray,List.set_cons_zero,List.set_cons_succ];done)|(simp only [putAll,Act.put,List.setIfInBounds_toArray,List.set_cons_zero,List.set_cons_succ];rfl)) (hJ1_11 (qp,qh) _ ⟨qa,PB,PZ⟩)
              ·skip
               rintro⟨qq,qh⟩ W ⟨qa,PL,PZ⟩
               replace PL:Kd.R (Kd.int .u8) 5 W wr.heap.size (fun k_=>True) qq [0]:=PL
               replace PZ:Blk wr W qh #[.int .i64 0,.int .i64 0,.slice none 0 0]:=PZ
               replace qa:Below wr.heap.size wr W:=qa
               refine norm_ (a':=?_) ?_ ?_
               rotate_left
               ·simp only [putAll,Act.put,List.setIfInBounds_toArray,List.set_cons_zero,List.set_cons_succ]
                rfl
               refine one_ (i:=1) (N:=some 58) #[true,true,true,false,true,false,true,false,false,false,false,true,false,false] rfl rfl (one_of HT_.out (by kernel_rfl)) (by decide) (fun K hK=>?_)
               ·skip
                refine Kd.R_lit_step (Kd.int .u8) _ 5 ?hg (N:=58) ?hd (xs:=([]:List Int)) (inner:=[]) (ok:=fun _=>True) (okp:=fun _=>True) ?hr ?hp (fun _ hk=>hk) trivial (Below.refl _ _) (Nat.le_refl _) (by simp) ?_;(case hd=>rfl);(case hg=>rfl);(case hr=>first|(go_simp;done)|(go_simp;rfl));(case hp=>exact(Reps.none _ _))
                intro qp W2 ho hb hg_ hnew_
                clear hg_ hnew_
                have PB:=Kd.R_mono (Kd.R_lower (Kd.R_new' ho (Kd.R_lt PL)) (Below.size qa)) (fun _ h_=>h_.2)
                replace PL:=Kd.R_mono (Kd.R_elder' PL (Kd.R_base ho) hb) (fun _ h_=>h_.2)
                replace PZ:=Blk.below PZ hb
                replace qa:=Mh qa hb
                clear hb ho
                refine hK.out _ _ qa (fun _=>?_)
                clear hK K
                refine norm_ (a':=?_) ?_ ?_
                rotate_left
                ·show Act.put _ (some 58) _=_
                 simp only [Act.put,List.setIfInBounds_toArray,List.set_cons_zero,List.set_cons_succ,i64_w,i32_w]
                 rfl
                exact norm_ (by first|(simp only [putAll,Act.put,List.setIfInBounds_toArray,List.set_cons_zero,List.set_cons_succ];done)|(simp only [putAll,Act.put,List.setIfInBounds_toArray,List.set_cons_zero,List.set_cons_succ];rfl)) (yh (qp,qq,qh) _ ⟨qa,PB,PL,PZ⟩)
             ·skip
              rintro⟨qp,qh⟩ W ⟨qa,PB,PZ⟩
              replace PB:Kd.R (Kd.int .u8) 5 W wr.heap.size (fun k_=>True) qp []:=PB
              replace PZ:Blk wr W qh #[.int .i64 0,.int .i64 0,.slice none 0 0]:=PZ
              replace qa:Below wr.heap.size wr W:=qa
              refine norm_ (a':=?_) ?_ ?_
              rotate_left
              ·simp only [putAll,Act.put,List.setIfInBounds_toArray,List.set_cons_zero,List.set_cons_succ]
               rfl
              refine two_ (i:=3) (j:=4) (Ni:=some 60) (Nj:=some 61) #[true,true,true,true,false,false,true,false,false,false,false,true,false,false] #[true,true,true,false,true,false,true,false,false,false,false,true,false,false] rfl rfl rfl rfl (two_of HT_.out (by kernel_rfl)) (by decide) (by decide) (fun K hK=>?_) (fun K hK=>?_)
              ·skip
               refine Kd.R_append_rows_step (Kd.int .u8) (w0:=wr) wr.heap.size (by rfl) (.tmp 58) (.tmp 59) 37 5 (.int .u8 0) 1 rfl Try.underlying37 finfo8 rfl (by decide) (by decide) qp [] bs _ _ _ (fun _=>True) (fun _=>False) rfl rfl ?aO ?aR (fun _ _ h=>h) (fun _ h=>h.elim) ?aF qa (Below.size qa) ?aL ?_
               (case aR=>exact Mg HCB.out qa)
               (case aF=>exact(fun k_ hk=>trivial))
               (case aO=>exact PB)
               (case aL=>have h_:=HLB.out;simp only [List.length_nil,List.length_cons];omega)
               intro yb W2 ho hb hg hat
               replace PZ:=Blk.grown8 PZ PB hg
               rw [List.nil_append] at ho
               clear PB
               have PB:=ho
               replace qa:=hb
               clear hb hg hat ho
               refine hK.out _ _ qa (fun _=>?_)
               clear hK K
               refine norm_ (a':=?_) ?_ ?_
               rotate_left
               ·show Act.put _ (some 60) _=_
                simp only [Act.put,List.setIfInBounds_toArray,List.set_cons_zero,List.set_cons_succ,i64_w,i32_w]
                rfl
               exact norm_ (by first|(simp only [putAll,Act.put,List.setIfInBounds_toArray,List.set_cons_zero,List.set_cons_succ];done)|(simp only [putAll,Act.put,List.setIfInBounds_toArray,List.set_cons_zero,List.set_cons_succ];rfl)) (hJ1_3_11 (qp,yb,qh) _ ⟨qa,PB,PZ⟩)
              ·skip
               refine Kd.R_lit_step (Kd.int .u8) _ 5 ?hg (N:=61) ?hd (xs:=([0]:List Int)) (inner:=[.int .u8 0]) (ok:=fun _=>True) (okp:=fun _=>True) ?hr ?hp (fun _ hk=>hk) trivial (Below.refl _ _) (Nat.le_refl _) (by simp) ?_;(case hd=>rfl);(case hg=>rfl);(case hr=>first|(go_simp;done)|(go_simp;rfl));(case hp=>exact(Reps.one (show Kd.M (Kd.int .u8) _ _ _ 0 [.int .u8 0] from rfl) (Reps.none _ _)))
               intro qq W2 ho hb hg_ hnew_
               clear hg_ hnew_
               have PL:=Kd.R_mono (Kd.R_lower (Kd.R_new' ho (Kd.R_lt PB)) (Below.size qa)) (fun _ h_=>h_.2)
               replace PB:=Kd.R_mono (Kd.R_elder' PB (Kd.R_base ho) hb) (fun _ h_=>h_.2)
               replace PZ:=Blk.below PZ hb
               replace qa:=Mh qa hb
               clear hb ho
               refine hK.out _ _ qa (fun _=>?_)
               clear hK K
               refine norm_ (a':=?_) ?_ ?_
               rotate_left
               ·show Act.put _ (some 61) _=_
                simp only [Act.put,List.setIfInBounds_toArray,List.set_cons_zero,List.set_cons_succ,i64_w,i32_w]
                rfl
               exact norm_ (by first|(simp only [putAll,Act.put,List.setIfInBounds_toArray,List.set_cons_zero,List.set_cons_succ];done)|(simp only [putAll,Act.put,List.setIfInBounds_toArray,List.set_cons_zero,List.set_cons_succ];rfl)) (yh (qp,qq,qh) _ ⟨qa,PB,PL,PZ⟩)
            ·skip
             rintro⟨qp,qq⟩ W ⟨qa,PB,PL⟩
             replace PB:Kd.R (Kd.int .u8) 5 W wr.heap.size (fun k_=>some k_≠(qq:Value).ownBlock) qp []:=PB
             replace PL:Kd.R (Kd.int .u8) 5 W wr.heap.size (fun k_=>some k_≠(qp:Value).ownBlock) qq [0]:=PL
             replace qa:Below wr.heap.size wr W:=qa
             refine norm_ (a':=?_) ?_ ?_
             rotate_left
             ·simp only [putAll,Act.put,List.setIfInBounds_toArray,List.set_cons_zero,List.set_cons_succ]
              rfl
             refine two_ (i:=3) (j:=11) (Ni:=some 60) (Nj:=some 10) #[true,true,true,true,true,false,true,false,false,false,false,false,false,false] #[true,true,true,false,true,false,true,false,false,false,false,true,false,false] rfl rfl rfl rfl (two_of HT_.out (by kernel_rfl)) (by decide) (by decide) (fun K hK=>?_) (fun K hK=>?_)
             ·skip
              refine Kd.R_append_rows_step (Kd.int .u8) (w0:=wr) wr.heap.size (by rfl) (.tmp 58) (.tmp 59) 37 5 (.int .u8 0) 1 rfl Try.underlying37 finfo8 rfl (by decide) (by decide) qp [] bs _ _ _ (fun k_=>some k_≠(qq:Value).ownBlock) (fun _=>False) rfl rfl ?aO ?aR (fun _ _ h=>h) (fun _ h=>h.elim) ?aF qa (Below.size qa) ?aL ?_
              (case aR=>exact Mg HCB.out qa)
              (case aF=>exact(fun k_ hk=>Kd.fresh' (Kd.R_lt PL) k_ hk))
              (case aO=>exact PB)
              (case aL=>have h_:=HLB.out;simp only [List.length_nil,List.length_cons];omega)
              intro yb W2 ho hb hg hat
              replace PL:=Kd.R_mono (Kd.R_after (ok:=fun _=>True) (Kd.R_mono PL (fun _ h_=>⟨trivial,h_⟩)) hg hat) (fun _ h_=>h_.2)
              rw [List.nil_append] at ho
              clear PB
              have PB:=ho
              replace qa:=hb
              clear hb hg hat ho
              refine hK.out _ _ qa (fun _=>?_)
              clear hK K
              refine norm_ (a':=?_) ?_ ?_
              rotate_left
              ·show Act.put _ (some 60) _=_
               simp only [Act.put,List.setIfInBounds_toArray,List.set_cons_zero,List.set_cons_succ,i64_w,i32_w]
               rfl
              exact norm_ (by first|(simp only [putAll,Act.put,List.setIfInBounds_toArray,List.set_cons_zero,List.set_cons_succ];done)|(simp only [putAll,Act.put,List.setIfInBounds_toArray,List.set_cons_zero,List.set_cons_succ];rfl)) (hJ1_3_4 (qp,yb,qq) _ ⟨qa,PB,PL⟩)
             ·skip
              refine box_step ?hg (N:=10) ?hd (cs:=#[.int .i64 0,.int .i64 0,.slice none 0 0]) (t:=27) ?hr ?_;(case hd=>rfl);(case hg=>rfl);(case hr=>first|(go_simp;done)|(go_simp;rfl))
              intro qh hg W2 hbox hb
              have PZ:Blk wr W2 qh #[.int .i64 0,.int .i64 0,.slice none 0 0]:=⟨by rw [hg];exact Below.size qa,hbox⟩
              replace PB:=Kd.R_below PB hb
              replace PL:=Kd.R_below PL hb
              replace qa:=Mh qa hb
              clear hb hg hbox
              refine hK.out _ _ qa (fun _=>?_)
              clear hK K
              refine norm_ (a':=?_) ?_ ?_
              rotate_left
              ·show Act.put _ (some 10) _=_
               simp only [Act.put,List.setIfInBounds_toArray,List.set_cons_zero,List.set_cons_succ,i64_w,i32_w]
               rfl
              exact norm_ (by first|(simp only [putAll,Act.put,List.setIfInBounds_toArray,List.set_cons_zero,List.set_cons_succ];done)|(simp only [putAll,Act.put,List.setIfInBounds_toArray,List.set_cons_zero,List.set_cons_succ];rfl)) (yh (qp,qq,qh) _ ⟨qa,PB,PL,PZ⟩)
           ·skip
            rintro⟨qp,yb⟩ W ⟨qa,PB⟩
            replace PB:Kd.R (Kd.int .u8) 5 W wr.heap.size (fun k_=>True) yb bs:=PB
            replace qa:Below wr.heap.size wr W:=qa
            refine norm_ (a':=?_) ?_ ?_
            rotate_left
            ·simp only [putAll,Act.put,List.setIfInBounds_toArray,List.set_cons_zero,List.set_cons_succ]
             rfl
            refine two_ (i:=4) (j:=11) (Ni:=some 61) (Nj:=some 10) #[true,true,true,true,true,false,true,false,false,false,false,false,false,false] #[true,true,true,true,false,false,true,false,false,false,false,true,false,false] rfl rfl rfl rfl (two_of HT_.out (by kernel_rfl)) (by decide) (by decide) (fun K hK=>?_) (fun K hK=>?_)
            ·skip
             refine Kd.R_lit_step (Kd.int .u8) _ 5 ?hg (N:=61) ?hd (xs:=([0]:List Int)) (inner:=[.int .u8 0]) (ok:=fun _=>True) (okp:=fun _=>True) ?hr ?hp (fun _ hk=>hk) trivial (Below.refl _ _) (Nat.le_refl _) (by simp) ?_;(case hd=>rfl);(case hg=>rfl);(case hr=>first|(go_simp;done)|(go_simp;rfl));(case hp=>exact(Reps.one (show Kd.M (Kd.int .u8) _ _ _ 0 [.int .u8 0] from rfl) (Reps.none _ _)))
             intro qq W2 ho hb hg_ hnew_
             clear hg_ hnew_
             have PL:=Kd.R_mono (Kd.R_lower (Kd.R_new' ho (Kd.R_lt PB)) (Below.size qa)) (fun _ h_=>h_.2)
             replace PB:=Kd.R_mono (Kd.R_elder' PB (Kd.R_base ho) hb) (fun _ h_=>h_.2)
             replace qa:=Mh qa hb
             clear hb ho
             refine hK.out _ _ qa (fun _=>?_)
             clear hK K
             refine norm_ (a':=?_) ?_ ?_
             rotate_left
             ·show Act.put _ (some 61) _=_
              simp only [Act.put,List.setIfInBounds_toArray,List.set_cons_zero,List.set_cons_succ,i64_w,i32_w]
              rfl
             exact norm_ (by first|(simp only [putAll,Act.put,List.setIfInBounds_toArray,List.set_cons_zero,List.set_cons_succ];done)|(simp only [putAll,Act.put,List.setIfInBounds_toArray,List.set_cons_zero,List.set_cons_succ];rfl)) (hJ1_3_4 (qp,yb,qq) _ ⟨qa,PB,PL⟩)
            ·skip
             refine box_step ?hg (N:=10) ?hd (cs:=#[.int .i64 0,.int .i64 0,.slice none 0 0]) (t:=27) ?hr ?_;(case hd=>rfl);(case hg=>rfl);(case hr=>first|(go_simp;done)|(go_simp;rfl))
             intro qh hg W2 hbox hb
             have PZ:Blk wr W2 qh #[.int .i64 0,.int .i64 0,.slice none 0 0]:=⟨by rw [hg];exact Below.size qa,hbox⟩
             replace PB:=Kd.R_below PB hb
             replace qa:=Mh qa hb
             clear hb hg hbox
             refine hK.out _ _ qa (fun _=>?_)
             clear hK K
             refine norm_ (a':=?_) ?_ ?_
             rotate_left
             ·show Act.put _ (some 10) _=_
              simp only [Act.put,List.setIfInBounds_toArray,List.set_cons_zero,List.set_cons_succ,i64_w,i32_w]
              rfl
             exact norm_ (by first|(simp only [putAll,Act.put,List.setIfInBounds_toArray,List.set_cons_zero,List.set_cons_succ];done)|(simp only [putAll,Act.put,List.setIfInBounds_toArray,List.set_cons_zero,List.set_cons_succ];rfl)) (hJ1_3_11 (qp,yb,qh) _ ⟨qa,PB,PZ⟩)
          ·skip
           rintro⟨qp,qq,qh⟩ W ⟨qa,PB,PL,PZ⟩
           replace PB:Kd.R (Kd.int .u8) 5 W wr.heap.size (fun k_=>some k_≠(qq:Value).ownBlock) qp []:=PB
           replace PL:Kd.R (Kd.int .u8) 5 W wr.heap.size (fun k_=>some k_≠(qp:Value).ownBlock) qq [0]:=PL
           replace PZ:Blk wr W qh #[.int .i64 0,.int .i64 0,.slice none 0 0]:=PZ
           replace qa:Below wr.heap.size wr W:=qa
           refine norm_ (a':=?_) ?_ ?_
           rotate_left
           ·simp only [putAll,Act.put,List.setIfInBounds_toArray,List.set_cons_zero,List.set_cons_succ]
            rfl
           refine one_ (i:=3) (N:=some 60) #[true,true,true,true,true,false,true,false,false,false,false,true,false,false] rfl rfl (one_of HT_.out (by kernel_rfl)) (by decide) (fun K hK=>?_)
           ·skip
            refine Kd.R_append_rows_step (Kd.int .u8) (w0:=wr) wr.heap.size (by rfl) (.tmp 58) (.tmp 59) 37 5 (.int .u8 0) 1 rfl Try.underlying37 finfo8 rfl (by decide) (by decide) qp [] bs _ _ _ (fun k_=>some k_≠(qq:Value).ownBlock) (fun _=>False) rfl rfl ?aO ?aR (fun _ _ h=>h) (fun _ h=>h.elim) ?aF qa (Below.size qa) ?aL ?_
            (case aR=>exact Mg HCB.out qa)
            (case aF=>exact(fun k_ hk=>Kd.fresh' (Kd.R_lt PL) k_ hk))
            (case aO=>exact PB)
            (case aL=>have h_:=HLB.out;simp only [List.length_nil,List.length_cons];omega)
            intro yb W2 ho hb hg hat
            replace PZ:=Blk.grown8 PZ PB hg
            replace PL:=Kd.R_mono (Kd.R_after (ok:=fun _=>True) (Kd.R_mono PL (fun _ h_=>⟨trivial,h_⟩)) hg hat) (fun _ h_=>h_.2)
            rw [List.nil_append] at ho
            clear PB
            have PB:=ho
            replace qa:=hb
            clear hb hg hat ho
            refine hK.out _ _ qa (fun _=>?_)
            clear hK K
            refine norm_ (a':=?_) ?_ ?_
            rotate_left
            ·show Act.put _ (some 60) _=_
             simp only [Act.put,List.setIfInBounds_toArray,List.set_cons_zero,List.set_cons_succ,i64_w,i32_w]
             rfl
            exact norm_ (by first|(simp only [putAll,Act.put,List.setIfInBounds_toArray,List.set_cons_zero,List.set_cons_succ];done)|(simp only [putAll,Act.put,List.setIfInBounds_toArray,List.set_cons_zero,List.set_cons_succ];rfl)) (yd (qp,yb,qq,qh) _ ⟨qa,PB,PL,PZ⟩)
         ·skip
          rintro⟨qp,yb,qh⟩ W ⟨qa,PB,PZ⟩
          replace PB:Kd.R (Kd.int .u8) 5 W wr.heap.size (fun k_=>True) yb bs:=PB
          replace PZ:Blk wr W qh #[.int .i64 0,.int .i64 0,.slice none 0 0]:=PZ
          replace qa:Below wr.heap.size wr W:=qa
          refine norm_ (a':=?_) ?_ ?_
          rotate_left
          ·simp only [putAll,Act.put,List.setIfInBounds_toArray,List.set_cons_zero,List.set_cons_succ]
           rfl
          refine one_ (i:=4) (N:=some 61) #[true,true,true,true,true,false,true,false,false,false,false,true,false,false] rfl rfl (one_of HT_.out (by kernel_rfl)) (by decide) (fun K hK=>?_)
          ·skip
           refine Kd.R_lit_step (Kd.int .u8) _ 5 ?hg (N:=61) ?hd (xs:=([0]:List Int)) (inner:=[.int .u8 0]) (ok:=fun _=>True) (okp:=fun _=>True) ?hr ?hp (fun _ hk=>hk) trivial (Below.refl _ _) (Nat.le_refl _) (by simp) ?_;(case hd=>rfl);(case hg=>rfl);(case hr=>first|(go_simp;done)|(go_simp;rfl));(case hp=>exact(Reps.one (show Kd.M (Kd.int .u8) _ _ _ 0 [.int .u8 0] from rfl) (Reps.none _ _)))
           intro qq W2 ho hb hg_ hnew_
           clear hg_ hnew_
           have PL:=Kd.R_mono (Kd.R_lower (Kd.R_new' ho (Kd.R_lt PB)) (Below.size qa)) (fun _ h_=>h_.2)
           replace PB:=Kd.R_mono (Kd.R_elder' PB (Kd.R_base ho) hb) (fun _ h_=>h_.2)
           replace PZ:=Blk.below PZ hb
           replace qa:=Mh qa hb
           clear hb ho
           refine hK.out _ _ qa (fun _=>?_)
           clear hK K
           refine norm_ (a':=?_) ?_ ?_
           rotate_left
           ·show Act.put _ (some 61) _=_
            simp only [Act.put,List.setIfInBounds_toArray,List.set_cons_zero,List.set_cons_succ,i64_w,i32_w]
            rfl
           exact norm_ (by first|(simp only [putAll,Act.put,List.setIfInBounds_toArray,List.set_cons_zero,List.set_cons_succ];done)|(simp only [putAll,Act.put,List.setIfInBounds_toArray,List.set_cons_zero,List.set_cons_succ];rfl)) (yd (qp,yb,qq,qh) _ ⟨qa,PB,PL,PZ⟩)
        ·skip
         rintro⟨qp,yb,qq⟩ W ⟨qa,PB,PL⟩
         replace PB:Kd.R (Kd.int .u8) 5 W wr.heap.size (fun k_=>some k_≠(qq:Value).ownBlock) yb bs:=PB
         replace PL:Kd.R (Kd.int .u8) 5 W wr.heap.size (fun k_=>some k_≠(yb:Value).ownBlock) qq [0]:=PL
         replace qa:Below wr.heap.size wr W:=qa
         refine norm_ (a':=?_) ?_ ?_
         rotate_left
         ·simp only [putAll,Act.put,List.setIfInBounds_toArray,List.set_cons_zero,List.set_cons_succ]
          rfl
         refine two_ (i:=5) (j:=11) (Ni:=some 62) (Nj:=some 10) #[true,true,true,true,true,true,true,false,false,false,false,false,false,false] #[true,true,true,true,true,false,true,false,false,false,false,true,false,false] rfl rfl rfl rfl (two_of HT_.out (by kernel_rfl)) (by decide) (by decide) (fun K hK=>?_) (fun K hK=>?_)
         ·skip
          obtain⟨A61,c61,e61_⟩:=Kd.R_slice PL
          subst e61_
          refine Kd.R_append_rows_step (Kd.int .u8) (w0:=wr) wr.heap.size (by rfl) (.tmp 60) (.tmp 61) 37 5 (.int .u8 0) 1 rfl Try.underlying37 finfo8 rfl (by decide) (by decide) yb bs [0] _ _ _ (fun _=>True) (fun _=>False) rfl rfl ?aO ?aR (fun _ _ h=>h) (fun _ h=>h.elim) ?aF qa (Below.size qa) ?aL ?_
          (case aR=>exact(Kd.R_reads' PL).2.2)
          (case aF=>exact(fun k_ hk=>trivial))
          (case aO=>exact Kd.R_mono PB (fun _ _=>trivial))
          (case aL=>have h_:=HLB.out;simp only [List.length_nil,List.length_cons];omega)
          intro v62 W2 ho hb hg hat
          clear PB PL
          have PA:=ho
          replace qa:=hb
          clear hb hg hat ho
          refine hK.out _ _ qa (fun _=>?_)
          clear hK K
          refine norm_ (a':=?_) ?_ ?_
          rotate_left
          ·show Act.put _ (some 62) _=_
           simp only [Act.put,List.setIfInBounds_toArray,List.set_cons_zero,List.set_cons_succ,i64_w,i32_w]
           rfl
          exact norm_ (by first|(simp only [putAll,Act.put,List.setIfInBounds_toArray,List.set_cons_zero,List.set_cons_succ];done)|(simp only [putAll,Act.put,List.setIfInBounds_toArray,List.set_cons_zero,List.set_cons_succ];rfl)) (hJ1_3_4_5 (qp,yb,(.slice A61 ([0]:List Int).length c61),v62) _ ⟨qa,PA⟩)
         ·skip
          refine box_step ?hg (N:=10) ?hd (cs:=#[.int .i64 0,.int .i64 0,.slice none 0 0]) (t:=27) ?hr ?_;(case hd=>rfl);(case hg=>rfl);(case hr=>first|(go_simp;done)|(go_simp;rfl))
          intro qh hg W2 hbox hb
          have PZ:Blk wr W2 qh #[.int .i64 0,.int .i64 0,.slice none 0 0]:=⟨by rw [hg];exact Below.size qa,hbox⟩
          replace PB:=Kd.R_below PB hb
          replace PL:=Kd.R_below PL hb
          replace qa:=Mh qa hb
          clear hb hg hbox
          refine hK.out _ _ qa (fun _=>?_)
          clear hK K
          refine norm_ (a':=?_) ?_ ?_
          rotate_left
          ·show Act.put _ (some 10) _=_
           simp only [Act.put,List.setIfInBounds_toArray,List.set_cons_zero,List.set_cons_succ,i64_w,i32_w]
           rfl
          exact norm_ (by first|(simp only [putAll,Act.put,List.setIfInBounds_toArray,List.set_cons_zero,List.set_cons_succ];done)|(simp only [putAll,Act.put,List.setIfInBounds_toArray,List.set_cons_zero,List.set_cons_succ];rfl)) (yd (qp,yb,qq,qh) _ ⟨qa,PB,PL,PZ⟩)
       ·skip
        rintro⟨qp,yb,qq,qh⟩ W ⟨qa,PB,PL,PZ⟩
        replace PB:Kd.R (Kd.int .u8) 5 W wr.heap.size (fun k_=>some k_≠(qq:Value).ownBlock) yb bs:=PB
        replace PL:Kd.R (Kd.int .u8) 5 W wr.heap.size (fun k_=>some k_≠(yb:Value).ownBlock) qq [0]:=PL
        replace PZ:Blk wr W qh #[.int .i64 0,.int .i64 0,.slice none 0 0]:=PZ
        replace qa:Below wr.heap.size wr W:=qa
        refine norm_ (a':=?_) ?_ ?_
        rotate_left
        ·simp only [putAll,Act.put,List.setIfInBounds_toArray,List.set_cons_zero,List.set_cons_succ]
         rfl
        refine one_ (i:=5) (N:=some 62) #[true,true,true,true,true,true,true,false,false,false,false,true,false,false] rfl rfl (one_of HT_.out (by kernel_rfl)) (by decide) (fun K hK=>?_)
        ·skip
         obtain⟨A61,c61,e61_⟩:=Kd.R_slice PL
         subst e61_
         refine Kd.R_append_rows_step (Kd.int .u8) (w0:=wr) wr.heap.size (by rfl) (.tmp 60) (.tmp 61) 37 5 (.int .u8 0) 1 rfl Try.underlying37 finfo8 rfl (by decide) (by decide) yb bs [0] _ _ _ (fun _=>True) (fun _=>False) rfl rfl ?aO ?aR (fun _ _ h=>h) (fun _ h=>h.elim) ?aF qa (Below.size qa) ?aL ?_
         (case aR=>exact(Kd.R_reads' PL).2.2)
         (case aF=>exact(fun k_ hk=>trivial))
         (case aO=>exact Kd.R_mono PB (fun _ _=>trivial))
         (case aL=>have h_:=HLB.out;simp only [List.length_nil,List.length_cons];omega)
         intro v62 W2 ho hb hg hat
         replace PZ:=Blk.grown8 PZ PB hg
         clear PB PL
         have PA:=ho
         replace qa:=hb
         clear hb hg hat ho
         refine hK.out _ _ qa (fun _=>?_)
         clear hK K
         refine norm_ (a':=?_) ?_ ?_
         rotate_left
         ·show Act.put _ (some 62) _=_
          simp only [Act.put,List.setIfInBounds_toArray,List.set_cons_zero,List.set_cons_succ,i64_w,i32_w]
          rfl
         exact norm_ (by first|(simp only [putAll,Act.put,List.setIfInBounds_toArray,List.set_cons_zero,List.set_cons_succ];done)|(simp only [putAll,Act.put,List.setIfInBounds_toArray,List.set_cons_zero,List.set_cons_succ];rfl)) (ye (qp,yb,(.slice A61 ([0]:List Int).length c61),v62,qh) _ ⟨qa,PA,PZ⟩)
      ·skip
       rintro⟨qp,yb,qq,v62⟩ W ⟨qa,PA⟩
       replace PA:Kd.R (Kd.int .u8) 5 W wr.heap.size (fun _=>True) v62 (bs ++ [0]):=PA
       replace qa:Below wr.heap.size wr W:=qa
       refine norm_ (a':=?_) ?_ ?_
       rotate_left
       ·simp only [putAll,Act.put,List.setIfInBounds_toArray,List.set_cons_zero,List.set_cons_succ]
        rfl
       refine two_ (i:=7) (j:=11) (Ni:=some 64) (Nj:=some 10) #[true,true,true,true,true,true,true,true,false,false,false,false,false,false] #[true,true,true,true,true,true,true,false,false,false,false,true,false,false] rfl rfl rfl rfl (two_of HT_.out (by kernel_rfl)) (by decide) (by decide) (fun K hK=>?_) (fun K hK=>?_)
       ·skip
        obtain⟨A62,c62,e62_⟩:=Kd.R_slice PA
        subst e62_
        refine goes_ Try.func36 (by kernel_rfl) rfl #[.agg #[.int .i64 a,.int .i64 c,.slice yf xs.length yg],.slice A62 (bs ++ [0]).length c62,.int .i64 q] (by rfl) rfl rfl (by(try simp only [List.map_toArray,List.map_cons,List.map_nil]);first|done|rfl) ?_
        with_reducible refine(impl_Decode.calls k a c yf yg xs A62 c62 (bs ++ [0]) q m1 m2 ms false _ (Mg HX.out qa) HKX.out (Kd.R_reads' PA).2.2 (Kd.R_reads' PA).2.1 HD3.out).mono ?_
        rintro e W2 ⟨v2,rfl,ho,hb⟩
        refine⟨_,rfl,?_⟩
        have PD:=Kd.R_lower ho (Below.size qa)
        clear PA ho
        replace qa:=Mh qa hb
        clear hb
        refine hK.out _ _ qa (fun _=>?_)
        clear hK K
        refine norm_ (a':=?_) ?_ ?_
        rotate_left
        ·show Act.put _ (some 64) _=_
         simp only [Act.put,List.setIfInBounds_toArray,List.set_cons_zero,List.set_cons_succ,i64_w,i32_w]
         rfl
        refine pure_ (i:=8) (N:=some 56) (v:=?_) (a':=?_) #[true,true,true,true,true,true,true,true,true,false,false,false,false,false] rfl rfl (any_of HT_.out (by kernel_rfl)) (fun _ _ _ h=>h) (Or.inl ⟨by rfl,?_⟩) ?_ ?_
        rotate_left
        ·intro w'
         go_simp
         with_reducible rfl
        rotate_left
        ·simp only [Act.put,List.setIfInBounds_toArray,List.set_cons_zero,List.set_cons_succ,i64_w,i32_w]
         rfl
        refine pure_ (i:=9) (N:=some 65) (v:=?_) (a':=?_) #[true,true,true,true,true,true,true,true,true,true,false,false,false,false] rfl rfl (any_of HT_.out (by kernel_rfl)) (fun _ _ _ h=>h) (Or.inl ⟨by rfl,?_⟩) ?_ ?_
        rotate_left
        ·intro w'
         go_simp
         with_reducible rfl
        rotate_left
        ·simp only [Act.put,List.setIfInBounds_toArray,List.set_cons_zero,List.set_cons_succ,i64_w,i32_w]
         rfl
        refine pure_ (i:=10) (N:=some 66) (v:=?_) (a':=?_) #[true,true,true,true,true,true,true,true,true,true,true,false,false,false] rfl rfl (any_of HT_.out (by kernel_rfl)) (fun _ _ _ h=>h) (Or.inl ⟨by rfl,?_⟩) ?_ ?_
        rotate_left
        ·intro w'
         go_simp
         with_reducible rfl
        rotate_left
        ·simp only [Act.put,List.setIfInBounds_toArray,List.set_cons_zero,List.set_cons_succ,i64_w,i32_w]
         rfl
        exact norm_ (by first|(simp only [putAll,Act.put,List.setIfInBounds_toArray,List.set_cons_zero,List.set_cons_succ];done)|(simp only [putAll,Act.put,List.setIfInBounds_toArray,List.set_cons_zero,List.set_cons_succ];rfl)) (hJ1_3_4_5_7 (qp,yb,qq,(.slice A62 (bs ++ [0]).length c62),v2) _ ⟨qa,PD⟩)
       ·skip
        refine box_step ?hg (N:=10) ?hd (cs:=#[.int .i64 0,.int .i64 0,.slice none 0 0]) (t:=27) ?hr ?_;(case hd=>rfl);(case hg=>rfl);(case hr=>first|(go_simp;done)|(go_simp;rfl))
        intro qh hg W2 hbox hb
        have PZ:Blk wr W2 qh #[.int .i64 0,.int .i64 0,.slice none 0 0]:=⟨by rw [hg];exact Below.size qa,hbox⟩
        replace PA:=Kd.R_below PA hb
        replace qa:=Mh qa hb
        clear hb hg hbox
        refine hK.out _ _ qa (fun _=>?_)
        clear hK K
        refine norm_ (a':=?_) ?_ ?_
        rotate_left
        ·show Act.put _ (some 10) _=_
         simp only [Act.put,List.setIfInBounds_toArray,List.set_cons_zero,List.set_cons_succ,i64_w,i32_w]
         rfl
        exact norm_ (by first|(simp only [putAll,Act.put,List.setIfInBounds_toArray,List.set_cons_zero,List.set_cons_succ];done)|(simp only [putAll,Act.put,List.setIfInBounds_toArray,List.set_cons_zero,List.set_cons_succ];rfl)) (ye (qp,yb,qq,v62,qh) _ ⟨qa,PA,PZ⟩)
     ·skip
      rintro⟨qp,yb,qq,v62,qh⟩ W ⟨qa,PA,PZ⟩
      replace PA:Kd.R (Kd.int .u8) 5 W wr.heap.size (fun _=>True) v62 (bs ++ [0]):=PA
      replace PZ:Blk wr W qh #[.int .i64 0,.int .i64 0,.slice none 0 0]:=PZ
      replace qa:Below wr.heap.size wr W:=qa
      refine norm_ (a':=?_) ?_ ?_
      rotate_left
      ·simp only [putAll,Act.put,List.setIfInBounds_toArray,List.set_cons_zero,List.set_cons_succ]
       rfl
      refine one_ (i:=7) (N:=some 64) #[true,true,true,true,true,true,true,true,false,false,false,true,false,false] rfl rfl (one_of HT_.out (by kernel_rfl)) (by decide) (fun K hK=>?_)
      ·skip
       obtain⟨A62,c62,e62_⟩:=Kd.R_slice PA
       subst e62_
       refine goes_ Try.func36 (by kernel_rfl) rfl #[.agg #[.int .i64 a,.int .i64 c,.slice yf xs.length yg],.slice A62 (bs ++ [0]).length c62,.int .i64 q] (by rfl) rfl rfl (by(try simp only [List.map_toArray,List.map_cons,List.map_nil]);first|done|rfl) ?_
       with_reducible refine(impl_Decode.calls k a c yf yg xs A62 c62 (bs ++ [0]) q m1 m2 ms false _ (Mg HX.out qa) HKX.out (Kd.R_reads' PA).2.2 (Kd.R_reads' PA).2.1 HD3.out).mono ?_
       rintro e W2 ⟨v2,rfl,ho,hb⟩
       refine⟨_,rfl,?_⟩
       have PD:=Kd.R_lower ho (Below.size qa)
       replace PZ:=Blk.below PZ hb
       clear PA ho
       replace qa:=Mh qa hb
       clear hb
       refine hK.out _ _ qa (fun _=>?_)
       clear hK K
       refine norm_ (a':=?_) ?_ ?_
       rotate_left
       ·show Act.put _ (some 64) _=_
        simp only [Act.put,List.setIfInBounds_toArray,List.set_cons_zero,List.set_cons_succ,i64_w,i32_w]
        rfl
       refine pure_ (i:=8) (N:=some 56) (v:=?_) (a':=?_) #[true,true,true,true,true,true,true,true,true,false,false,true,false,false] rfl rfl (any_of HT_.out (by kernel_rfl)) (fun _ _ _ h=>h) (Or.inl ⟨by rfl,?_⟩) ?_ ?_
       rotate_left
       ·intro w'
        go_simp
        with_reducible rfl
       rotate_left
       ·simp only [Act.put,List.setIfInBounds_toArray,List.set_cons_zero,List.set_cons_succ,i64_w,i32_w]
        rfl
       refine pure_ (i:=9) (N:=some 65) (v:=?_) (a':=?_) #[true,true,true,true,true,true,true,true,true,true,false,true,false,false] rfl rfl (any_of HT_.out (by kernel_rfl)) (fun _ _ _ h=>h) (Or.inl ⟨by rfl,?_⟩) ?_ ?_
       rotate_left
       ·intro w'
        go_simp
        with_reducible rfl
       rotate_left
       ·simp only [Act.put,List.setIfInBounds_toArray,List.set_cons_zero,List.set_cons_succ,i64_w,i32_w]
        rfl
       refine pure_ (i:=10) (N:=some 66) (v:=?_) (a':=?_) #[true,true,true,true,true,true,true,true,true,true,true,true,false,false] rfl rfl (any_of HT_.out (by kernel_rfl)) (fun _ _ _ h=>h) (Or.inl ⟨by rfl,?_⟩) ?_ ?_
       rotate_left
       ·intro w'
        go_simp
        with_reducible rfl
       rotate_left
       ·simp only [Act.put,List.setIfInBounds_toArray,List.set_cons_zero,List.set_cons_succ,i64_w,i32_w]
        rfl
       exact norm_ (by first|(simp only [putAll,Act.put,List.setIfInBounds_toArray,List.set_cons_zero,List.set_cons_succ];done)|(simp only [putAll,Act.put,List.setIfInBounds_toArray,List.set_cons_zero,List.set_cons_succ];rfl)) (qy (qp,yb,qq,(.slice A62 (bs ++ [0]).length c62),v2,qh) _ ⟨qa,PD,PZ⟩)
    ·skip
     rintro⟨qp,yb,qq,v62,v2⟩ W ⟨qa,PD⟩
     replace PD:Kd.R (Kd.int .i64) 2 W wr.heap.size (fun _=>True) v2 ms:=PD
     replace qa:Below wr.heap.size wr W:=qa
     refine norm_ (a':=?_) ?_ ?_
     rotate_left
     ·simp only [putAll,Act.put,List.setIfInBounds_toArray,List.set_cons_zero,List.set_cons_succ]
      rfl
     refine one_ (i:=11) (N:=some 10) #[true,true,true,true,true,true,true,true,true,true,true,true,false,false] rfl rfl (one_of HT_.out (by kernel_rfl)) (by decide) (fun K hK=>?_)
     ·skip
      refine box_step ?hg (N:=10) ?hd (cs:=#[.int .i64 0,.int .i64 0,.slice none 0 0]) (t:=27) ?hr ?_;(case hd=>rfl);(case hg=>rfl);(case hr=>first|(go_simp;done)|(go_simp;rfl))
      intro qh hg W2 hbox hb
      have PZ:Blk wr W2 qh #[.int .i64 0,.int .i64 0,.slice none 0 0]:=⟨by rw [hg];exact Below.size qa,hbox⟩
      replace PD:=Kd.R_below PD hb
      replace qa:=Mh qa hb
      clear hb hg hbox
      refine hK.out _ _ qa (fun _=>?_)
      clear hK K
      refine norm_ (a':=?_) ?_ ?_
      rotate_left
      ·show Act.put _ (some 10) _=_
       simp only [Act.put,List.setIfInBounds_toArray,List.set_cons_zero,List.set_cons_succ,i64_w,i32_w]
       rfl
      exact norm_ (by first|(simp only [putAll,Act.put,List.setIfInBounds_toArray,List.set_cons_zero,List.set_cons_succ];done)|(simp only [putAll,Act.put,List.setIfInBounds_toArray,List.set_cons_zero,List.set_cons_succ];rfl)) (qy (qp,yb,qq,v62,v2,qh) _ ⟨qa,PD,PZ⟩)
   ·skip
    rintro⟨qp,yb,qq,v62,v2,qh⟩ W ⟨qa,PD,PZ⟩
    replace PD:Kd.R (Kd.int .i64) 2 W wr.heap.size (fun _=>True) v2 ms:=PD
    replace PZ:Blk wr W qh #[.int .i64 0,.int .i64 0,.slice none 0 0]:=PZ
    replace qa:Below wr.heap.size wr W:=qa
    obtain⟨A2,c2,e2_⟩:=Kd.R_slice PD
    subst e2_
    have hge_:=PZ.1
    have hf0z_:=Mb (Ma PZ).out.2 0
    have hz0z_:W.cell? ⟨qh,0,none⟩=some (.int .i64 0):=(Md (Ma PZ).out.2 0).trans rfl
    have hf1z_:=Mb (Ma PZ).out.2 1
    have hz1z_:W.cell? ⟨qh,1,none⟩=some (.int .i64 0):=(Md (Ma PZ).out.2 1).trans rfl
    have hf2z_:=Mb (Ma PZ).out.2 2
    have hz2z_:W.cell? ⟨qh,2,none⟩=some (.slice none 0 0):=(Md (Ma PZ).out.2 2).trans rfl
    refine norm_ (a':=?_) ?_ ?_
    rotate_left
    ·simp only [putAll,Act.put,List.setIfInBounds_toArray,List.set_cons_zero,List.set_cons_succ]
     rfl
    refine one_ (i:=12) (N:=none) #[true,true,true,true,true,true,true,true,true,true,true,true,true,false] rfl rfl (one_of HT_.out (by kernel_rfl)) (by decide) (fun K hK=>?_)
    refine skip_ (w1:=?_) (by rfl) rfl ?_ ?_
    rotate_left
    ·go_simp
     rfl
    have hS_:=below_set3 qa hge_ (.int .i64 m1) (.int .i64 m2) (.slice A2 ms.length c2)
    refine hK.out _ _ hS_ (fun _=>?_)
    clear hK K qa PZ PD hz0z_ hz1z_ hz2z_ hf0z_ hf1z_ hf2z_
    revert hS_
    generalize (((W.setCell ⟨qh,0,none⟩ (.int .i64 m1)).setCell ⟨qh,1,none⟩ (.int .i64 m2)).setCell ⟨qh,2,none⟩ (.slice A2 ms.length c2))=wF
    intro hb_
    refine pure_ (i:=13) (N:=some 11) (v:=?_) (a':=?_) #[true,true,true,true,true,true,true,true,true,true,true,true,true,true] rfl rfl (any_of HT_.out (by kernel_rfl)) (fun _ _ _ h=>h) (Or.inl ⟨by rfl,?_⟩) ?_ ?_
    rotate_left
    ·intro w'
     go_simp
     with_reducible rfl
    rotate_left
    ·simp only [Act.put,List.setIfInBounds_toArray,List.set_cons_zero,List.set_cons_succ,i64_w,i32_w]
     rfl
    refine done_ (done_of HT_.out (by kernel_rfl)) ?_
    have qe:=Ma (Blk.below (by repeat(first|(with_reducible first|exact qb.out|apply Blk.alloc|apply Blk.drewN|apply Blk.drew_)|exact qb.out)) hb_)
    have qx:=Ma (Blk.below (by repeat(first|(with_reducible first|exact qd.out|apply Blk.alloc|apply Blk.drewN|apply Blk.drew_)|exact qd.out)) hb_)
    have qf:=Ma (Mg (by repeat(first|exact HX.out|(with_reducible refine Me ?_ _)|(with_reducible refine Mf ?_ _)|(with_reducible refine Mc ?_))) hb_)
    have qg:=Ma (Mg (by repeat(first|exact HCB.out|(with_reducible refine Me ?_ _)|(with_reducible refine Mf ?_ _)|(with_reducible refine Mc ?_))) hb_)
    have qo:=Ma (Mg (by repeat(first|exact HCP.out|(with_reducible refine Me ?_ _)|(with_reducible refine Mf ?_ _)|(with_reducible refine Mc ?_))) hb_)
    have mh_:=Ma (Mh (by repeat(first|(with_reducible first|exact HB.out|apply Mk|apply Mi|apply Mj)|exact HB.out)) hb_)
    clear HB qb qd HX HCB HCP
    have HB:=mh_
    clear mh_
    have qb:=qe
    clear qe
    have qd:=qx
    clear qx
    have HX:=qf
    clear qf
    have HCB:=qg
    clear qg
    have HCP:=qo
    clear qo
    have qi:=Mb qb.out.2 0
    have ql:wF.cell? ⟨g3,0,none⟩=some (.int .i64 a):=(Md qb.out.2 0).trans rfl
    have qj:=Mb qb.out.2 1
    have qm:wF.cell? ⟨g3,1,none⟩=some (.int .i64 c):=(Md qb.out.2 1).trans rfl
    have qk:=Mb qb.out.2 2
    have qn:wF.cell? ⟨g3,2,none⟩=some (.slice yf xs.length yg):=(Md qb.out.2 2).trans rfl
    have qr:=Mb qd.out.2 0
    have qu:wF.cell? ⟨g6,0,none⟩=some (.int .i64 r1):=(Md qd.out.2 0).trans rfl
    have qs:=Mb qd.out.2 1
    have qv:wF.cell? ⟨g6,1,none⟩=some (.int .i64 r2):=(Md qd.out.2 1).trans rfl
    have qt:=Mb qd.out.2 2
    have qw:wF.cell? ⟨g6,2,none⟩=some (.slice AP ps.length cP):=(Md qd.out.2 2).trans rfl
    clear hb_ HT_ HW_
    have hq1_:decide (r1=a)=true:=decide_eq_true HE1.out
    have hq2_:decide (r2=c)=true:=decide_eq_true HE2.out
    have hq3_:(r1 == a)=true:=beq_iff_eq.2 HE1.out
    have hq4_:(r2 == c)=true:=beq_iff_eq.2 HE2.out
    go_wp2_with (first|(go_at_call 15;(with_reducible refine(spec_PictureOk.calls k r1 r2 AP cP ps true _ ?s1908 HKP.out HPK.out).mono ?_);(case s1908=>exact(by repeat(first|exact HCP.out|(with_reducible refine Me ?_ _)|(with_reducible refine Mf ?_ _)|(with_reducible refine Mc ?_))));rintro e wk_ ⟨rfl,hb_⟩;skip;have qe:=Ma (Blk.below (by repeat(first|(with_reducible first|exact qb.out|apply Blk.alloc|apply Blk.drewN|apply Blk.drew_)|exact qb.out)) hb_);have qx:=Ma (Blk.below (by repeat(first|(with_reducible first|exact qd.out|apply Blk.alloc|apply Blk.drewN|apply Blk.drew_)|exact qd.out)) hb_);have mh_:=Ma (Mh (by repeat(first|(with_reducible first|exact HB.out|apply Mk|apply Mi|apply Mj)|exact HB.out)) hb_);clear HB qb qd;have HB:=mh_;clear mh_;have qb:=qe;clear qe;have qd:=qx;clear qx;have qi:=Mb qb.out.2 0;have ql:wk_.cell? ⟨g3,0,none⟩=some (.int .i64 a):=(Md qb.out.2 0).trans rfl;have qj:=Mb qb.out.2 1;have qm:wk_.cell? ⟨g3,1,none⟩=some (.int .i64 c):=(Md qb.out.2 1).trans rfl;have qk:=Mb qb.out.2 2;have qn:wk_.cell? ⟨g3,2,none⟩=some (.slice yf xs.length yg):=(Md qb.out.2 2).trans rfl;have qr:=Mb qd.out.2 0;have qu:wk_.cell? ⟨g6,0,none⟩=some (.int .i64 r1):=(Md qd.out.2 0).trans rfl;have qs:=Mb qd.out.2 1;have qv:wk_.cell? ⟨g6,1,none⟩=some (.int .i64 r2):=(Md qd.out.2 1).trans rfl;have qt:=Mb qd.out.2 2;have qw:wk_.cell? ⟨g6,2,none⟩=some (.slice AP ps.length cP):=(Md qd.out.2 2).trans rfl;clear hb_;skip))
    go_ret
    exact⟨by first|rfl|simp [hq3_,hq4_],(by repeat(first|(with_reducible first|exact HB.out|apply Mk|apply Mi|apply Mj)|exact HB.out))⟩


end Go.Proofs.Ytbdnpfjjaokdbaa.HFnDecoded
