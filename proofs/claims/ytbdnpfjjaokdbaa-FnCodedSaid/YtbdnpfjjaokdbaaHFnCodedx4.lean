-- Laid by myprint.py, a program of this repo, out of the kit's printer and this repo's own texts (wip/hand).
import Derived.Test.YtbdnpfjjaokdbaaHFnCodedx0
namespace Go.Proofs.Ytbdnpfjjaokdbaa.HFnCoded
open Go.RowKit Go.Proofs.YtbdnpfjjaokdbaaW.PrintWords Go.Proofs.YtbdnpfjjaokdbaaW.PrintLast Go.Proofs.YtbdnpfjjaokdbaaW.PrintMore
attribute [local go_sem] max2_int min2_int max_two min_two max_three min_three max_four min_four   -- for this text's walks alone
set_option linter.unusedVariables false
set_option linter.unusedSimpArgs false

/-! ### spec_l14Four: function 84 -/
def spec_l14Four.f (a0 : Int) (a1 : Int) (a2 : Int) (a3 : Int) : Option (List Int) := some (([wrap64 ((wrap64 ((wrap64 (a0 + a1)) + a2)) + a3), wrap64 ((wrap64 ((wrap64 (a0 + a1)) - a2)) - a3), wrap64 ((wrap64 ((wrap64 (a0 - a1)) - a2)) + a3), wrap64 ((wrap64 ((wrap64 (a0 - a1)) + a2)) - a3)] : List Int))
set_option maxHeartbeats 8000000 in
set_option maxRecDepth 100000 in
theorem spec_l14Four.calls (a0 : Int) (a1 : Int) (a2 : Int) (a3 : Int) (r : List Int) (w : World) (h : spec_l14Four.f a0 a1 a2 a3 = some r) :
  Calls Try.prog 84 #[.int .i64 a0,.int .i64 a1,.int .i64 a2,.int .i64 a3] w fun e w'=>∃ v0_:Value,e=.returned (v0_)∧Kd.R (Kd.int .i64) 2 w' w.heap.size (fun _=>True) v0_ r∧Below w.heap.size w w':=by
 have HB:=Aside0.mk (Below.refl w.heap.size w)
 have H:(some (([wrap64 ((wrap64 ((wrap64 (a0+a1))+a2))+a3),wrap64 ((wrap64 ((wrap64 (a0+a1)) - a2)) - a3),wrap64 ((wrap64 ((wrap64 (a0 - a1)) - a2))+a3),wrap64 ((wrap64 ((wrap64 (a0 - a1))+a2)) - a3)]:List Int)))=some r:=h
 clear h
 obtain⟨y121,hy121⟩:∃ y_:List Int,y_=(([wrap64 ((wrap64 ((wrap64 (a0+a1))+a2))+a3),wrap64 ((wrap64 ((wrap64 (a0+a1)) - a2)) - a3),wrap64 ((wrap64 ((wrap64 (a0 - a1)) - a2))+a3),wrap64 ((wrap64 ((wrap64 (a0 - a1))+a2)) - a3)]:List Int)):=⟨_,rfl⟩
 replace H:(some y121)=some r:=by first|(rw [hy121];with_reducible exact H)|(have H2_:=(Option.bind_some _ _).symm.trans H;rw [hy121];with_reducible exact H2_)|(have H2_:=(Option.bind_some _ _).symm.trans H;with_reducible exact H2_)|with_reducible exact H|(rw [hy121];exact H)|exact H
 have Ny121:=Aside0.mk hy121
 clear hy121
 obtain rfl:=Option.some.inj H
 go_enter Try.func84,Try.ntmps84
 go_wp2_with (first|((with_reducible refine gate_dst (N:=37) rfl ?_);refine Kd.R_lit (Kd.int .i64) _ 2 ?hg (N:=37) ?hd (xs:=([wrap64 ((wrap64 ((wrap64 (a0+a1))+a2))+a3),wrap64 ((wrap64 ((wrap64 (a0+a1)) - a2)) - a3),wrap64 ((wrap64 ((wrap64 (a0 - a1)) - a2))+a3),wrap64 ((wrap64 ((wrap64 (a0 - a1))+a2)) - a3)]:List Int)) (inner:=[.int .i64 (wrap64 ((wrap64 ((wrap64 (a0+a1))+a2))+a3)),.int .i64 (wrap64 ((wrap64 ((wrap64 (a0+a1)) - a2)) - a3)),.int .i64 (wrap64 ((wrap64 ((wrap64 (a0 - a1)) - a2))+a3)),.int .i64 (wrap64 ((wrap64 ((wrap64 (a0 - a1))+a2)) - a3))]) (ok:=fun _=>True) (okp:=fun _=>True) ?hr ?hp (fun _ hk=>hk) trivial (Below.refl _ _) (Nat.le_refl _) (by simp) ?_;(case hd=>rfl);(case hg=>rfl);(case hr=>first|(go_simp;done)|(go_simp;rfl));(case hp=>exact(Reps.one (show Kd.M (Kd.int .i64) _ _ _ (wrap64 ((wrap64 ((wrap64 (a0+a1))+a2))+a3)) [.int .i64 (wrap64 ((wrap64 ((wrap64 (a0+a1))+a2))+a3))] from rfl) (Reps.one (show Kd.M (Kd.int .i64) _ _ _ (wrap64 ((wrap64 ((wrap64 (a0+a1)) - a2)) - a3)) [.int .i64 (wrap64 ((wrap64 ((wrap64 (a0+a1)) - a2)) - a3))] from rfl) (Reps.one (show Kd.M (Kd.int .i64) _ _ _ (wrap64 ((wrap64 ((wrap64 (a0 - a1)) - a2))+a3)) [.int .i64 (wrap64 ((wrap64 ((wrap64 (a0 - a1)) - a2))+a3))] from rfl) (Reps.one (show Kd.M (Kd.int .i64) _ _ _ (wrap64 ((wrap64 ((wrap64 (a0 - a1))+a2)) - a3)) [.int .i64 (wrap64 ((wrap64 ((wrap64 (a0 - a1))+a2)) - a3))] from rfl) (Reps.none _ _))))));intro v122 w5 ho6 hb hg_ hnew_;clear hg_ hnew_;(first|rw [← Ny121.out] at ho6|(simp only [Int.reduceToNat] at ho6;rw [← Ny121.out] at ho6));have n0_:=Aside0.mk (Kd.R_lower ho6 (below_size (by repeat(first|(with_reducible first|exact HB.out|apply below_alloc|apply pw_below_drewN|apply below_drew1)|exact HB.out))));have n1_:=Aside0.mk (below_step (by repeat(first|(with_reducible first|exact HB.out|apply below_alloc|apply pw_below_drewN|apply below_drew1)|exact HB.out)) hb);clear HB;have HO123:=n0_;have HB:=n1_;clear n0_ n1_;clear hb ho6))
 go_ret
 exact⟨_,by first|rfl|(simp [errW_none,errW_some] <;> rfl)|(simp [*,errW_none,errW_some] <;> rfl),by(with_reducible repeat(first|apply Kd.R_alloc|apply Kd.R_drewN|apply Kd.R_drew));exact HO123.out,by repeat(first|(with_reducible first|exact HB.out|apply below_alloc|apply pw_below_drewN|apply below_drew1)|exact HB.out)⟩

end Go.Proofs.Ytbdnpfjjaokdbaa.HFnCoded
