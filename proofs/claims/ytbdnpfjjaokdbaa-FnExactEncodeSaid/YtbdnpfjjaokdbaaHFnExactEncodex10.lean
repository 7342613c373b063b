-- Laid by myprint.py, a program of this repo, out of the kit's printer and this repo's own texts (wip/hand).
import Derived.Test.YtbdnpfjjaokdbaaHFnExactEncodex0
namespace Go.Proofs.Ytbdnpfjjaokdbaa.HFnExactEncode
open Go.RowKit Go.Proofs.YtbdnpfjjaokdbaaW.PrintWords Go.Proofs.YtbdnpfjjaokdbaaW.PrintLast Go.Proofs.YtbdnpfjjaokdbaaW.PrintMore
attribute [local go_sem] max2_int min2_int max_two min_two max_three min_three max_four min_four   -- for this text's walks alone
set_option linter.unusedVariables false
set_option linter.unusedSimpArgs false
theorem Ka : type_of% @pw_below_drewN := @pw_below_drewN

/-! ### impl_levelBytes: function 80 -/
def impl_levelBytes.f (a0 : Int) : Option (List Int) := if a0 < 0 then (if (wrap64 ((wrap64 ((-2) * a0)) - 1)) < 255 then (some (([(wrap64 ((wrap64 ((-2) * a0)) - 1)) % 256] : List Int))) else (some (([255, ((wrap64 ((wrap64 ((-2) * a0)) - 1)) / 256) % 256, (wrap64 ((wrap64 ((-2) * a0)) - 1)) % 256] : List Int)))) else (if (wrap64 (2 * a0)) < 255 then (some (([(wrap64 (2 * a0)) % 256] : List Int))) else (some (([255, ((wrap64 (2 * a0)) / 256) % 256, (wrap64 (2 * a0)) % 256] : List Int))))
set_option maxHeartbeats 8000000 in
set_option maxRecDepth 100000 in
theorem impl_levelBytes.calls (a0 : Int) (r : List Int) (w : World) (h : impl_levelBytes.f a0 = some r) :
  Calls Try.prog 80 #[.int .i64 a0] w fun e w'=>∃ v0_:Value,e=.returned (v0_)∧Kd.R (Kd.int .u8) 5 w' w.heap.size (fun _=>True) v0_ r∧Below w.heap.size w w':=by
 have HB:=Aside0.mk (Below.refl w.heap.size w)
 have H:(if a0 < 0 then (if (wrap64 ((wrap64 ((-2)*a0)) - 1)) < 255 then (some (([(wrap64 ((wrap64 ((-2)*a0)) - 1)) % 256]:List Int))) else (some (([255,((wrap64 ((wrap64 ((-2)*a0)) - 1)) / 256) % 256,(wrap64 ((wrap64 ((-2)*a0)) - 1)) % 256]:List Int)))) else (if (wrap64 (2*a0)) < 255 then (some (([(wrap64 (2*a0)) % 256]:List Int))) else (some (([255,((wrap64 (2*a0)) / 256) % 256,(wrap64 (2*a0)) % 256]:List Int)))))=some r:=h
 clear h
 by_cases c2:a0 < 0
 ·rw [if_pos c2] at H
  have c2b0:decide (a0 < 0)=true:=decide_eq_true c2
  clear c2
  by_cases c3:(wrap64 ((wrap64 ((-2)*a0)) - 1)) < 255
  ·rw [if_pos c3] at H
   have c3b0:decide ((wrap64 ((wrap64 ((-2)*a0)) - 1)) < 255)=true:=decide_eq_true c3
   clear c3
   obtain⟨y303,hy303⟩:∃ y_:List Int,y_=(([(wrap64 ((wrap64 ((-2)*a0)) - 1)) % 256]:List Int)):=⟨_,rfl⟩
   replace H:(some y303)=some r:=by first|(rw [hy303];with_reducible exact H)|(have H2_:=(Option.bind_some _ _).symm.trans H;rw [hy303];with_reducible exact H2_)|(have H2_:=(Option.bind_some _ _).symm.trans H;with_reducible exact H2_)|with_reducible exact H|(rw [hy303];exact H)|exact H
   have Ny303:=Aside0.mk hy303
   clear hy303
   obtain rfl:=Option.some.inj H
   go_enter Try.func80,Try.ntmps80
   go_wp2_with (first|((with_reducible refine gate_dst (N:=15) rfl ?_);refine Kd.R_lit (Kd.int .u8) _ 5 ?hg (N:=15) ?hd (xs:=([(wrap64 ((wrap64 ((-2)*a0)) - 1)) % 256]:List Int)) (inner:=[.int .u8 ((wrap64 ((wrap64 ((-2)*a0)) - 1)) % 256)]) (ok:=fun _=>True) (okp:=fun _=>True) ?hr ?hp (fun _ hk=>hk) trivial (Below.refl _ _) (Nat.le_refl _) (by simp) ?_;(case hd=>rfl);(case hg=>rfl);(case hr=>first|(go_simp;done)|(go_simp;rfl));(case hp=>exact(Reps.one (show Kd.M (Kd.int .u8) _ _ _ ((wrap64 ((wrap64 ((-2)*a0)) - 1)) % 256) [.int .u8 ((wrap64 ((wrap64 ((-2)*a0)) - 1)) % 256)] from rfl) (Reps.none _ _)));intro v304 w4 ho5 hb hg_ hnew_;clear hg_ hnew_;(first|rw [← Ny303.out] at ho5|(simp only [Int.reduceToNat] at ho5;rw [← Ny303.out] at ho5));have n0_:=Aside0.mk (Kd.R_lower ho5 (below_size (by repeat(first|(with_reducible first|exact HB.out|apply below_alloc|apply Ka|apply below_drew1)|exact HB.out))));have n1_:=Aside0.mk (below_step (by repeat(first|(with_reducible first|exact HB.out|apply below_alloc|apply Ka|apply below_drew1)|exact HB.out)) hb);clear HB;have HO305:=n0_;have HB:=n1_;clear n0_ n1_;clear hb ho5))
   go_ret
   exact⟨_,by first|rfl|(simp [errW_none,errW_some] <;> rfl)|(simp [*,errW_none,errW_some] <;> rfl),by(with_reducible repeat(first|apply Kd.R_alloc|apply Kd.R_drewN|apply Kd.R_drew));exact HO305.out,by repeat(first|(with_reducible first|exact HB.out|apply below_alloc|apply Ka|apply below_drew1)|exact HB.out)⟩
  ·rw [if_neg c3] at H
   have c3b0:decide ((wrap64 ((wrap64 ((-2)*a0)) - 1)) < 255)=false:=decide_eq_false c3
   clear c3
   obtain⟨y306,hy306⟩:∃ y_:List Int,y_=(([255,((wrap64 ((wrap64 ((-2)*a0)) - 1)) / 256) % 256,(wrap64 ((wrap64 ((-2)*a0)) - 1)) % 256]:List Int)):=⟨_,rfl⟩
   replace H:(some y306)=some r:=by first|(rw [hy306];with_reducible exact H)|(have H2_:=(Option.bind_some _ _).symm.trans H;rw [hy306];with_reducible exact H2_)|(have H2_:=(Option.bind_some _ _).symm.trans H;with_reducible exact H2_)|with_reducible exact H|(rw [hy306];exact H)|exact H
   have Ny306:=Aside0.mk hy306
   clear hy306
   obtain rfl:=Option.some.inj H
   go_enter Try.func80,Try.ntmps80
   go_wp2_with (first|((with_reducible refine gate_dst (N:=21) rfl ?_);refine Kd.R_lit (Kd.int .u8) _ 5 ?hg (N:=21) ?hd (xs:=([255,((wrap64 ((wrap64 ((-2)*a0)) - 1)) / 256) % 256,(wrap64 ((wrap64 ((-2)*a0)) - 1)) % 256]:List Int)) (inner:=[.int .u8 255,.int .u8 (((wrap64 ((wrap64 ((-2)*a0)) - 1)) / 256) % 256),.int .u8 ((wrap64 ((wrap64 ((-2)*a0)) - 1)) % 256)]) (ok:=fun _=>True) (okp:=fun _=>True) ?hr ?hp (fun _ hk=>hk) trivial (Below.refl _ _) (Nat.le_refl _) (by simp) ?_;(case hd=>rfl);(case hg=>rfl);(case hr=>first|(go_simp;done)|(go_simp;rfl));(case hp=>exact(Reps.one (show Kd.M (Kd.int .u8) _ _ _ 255 [.int .u8 255] from rfl) (Reps.one (show Kd.M (Kd.int .u8) _ _ _ (((wrap64 ((wrap64 ((-2)*a0)) - 1)) / 256) % 256) [.int .u8 (((wrap64 ((wrap64 ((-2)*a0)) - 1)) / 256) % 256)] from rfl) (Reps.one (show Kd.M (Kd.int .u8) _ _ _ ((wrap64 ((wrap64 ((-2)*a0)) - 1)) % 256) [.int .u8 ((wrap64 ((wrap64 ((-2)*a0)) - 1)) % 256)] from rfl) (Reps.none _ _)))));intro v307 w6 ho7 hb hg_ hnew_;clear hg_ hnew_;(first|rw [← Ny306.out] at ho7|(simp only [Int.reduceToNat] at ho7;rw [← Ny306.out] at ho7));have n0_:=Aside0.mk (Kd.R_lower ho7 (below_size (by repeat(first|(with_reducible first|exact HB.out|apply below_alloc|apply Ka|apply below_drew1)|exact HB.out))));have n1_:=Aside0.mk (below_step (by repeat(first|(with_reducible first|exact HB.out|apply below_alloc|apply Ka|apply below_drew1)|exact HB.out)) hb);clear HB;have HO308:=n0_;have HB:=n1_;clear n0_ n1_;clear hb ho7))
   go_ret
   exact⟨_,by first|rfl|(simp [errW_none,errW_some] <;> rfl)|(simp [*,errW_none,errW_some] <;> rfl),by(with_reducible repeat(first|apply Kd.R_alloc|apply Kd.R_drewN|apply Kd.R_drew));exact HO308.out,by repeat(first|(with_reducible first|exact HB.out|apply below_alloc|apply Ka|apply below_drew1)|exact HB.out)⟩
 ·rw [if_neg c2] at H
  have c2b0:decide (a0 < 0)=false:=decide_eq_false c2
  clear c2
  by_cases c8:(wrap64 (2*a0)) < 255
  ·rw [if_pos c8] at H
   have c8b0:decide ((wrap64 (2*a0)) < 255)=true:=decide_eq_true c8
   clear c8
   obtain⟨y309,hy309⟩:∃ y_:List Int,y_=(([(wrap64 (2*a0)) % 256]:List Int)):=⟨_,rfl⟩
   replace H:(some y309)=some r:=by first|(rw [hy309];with_reducible exact H)|(have H2_:=(Option.bind_some _ _).symm.trans H;rw [hy309];with_reducible exact H2_)|(have H2_:=(Option.bind_some _ _).symm.trans H;with_reducible exact H2_)|with_reducible exact H|(rw [hy309];exact H)|exact H
   have Ny309:=Aside0.mk hy309
   clear hy309
   obtain rfl:=Option.some.inj H
   go_enter Try.func80,Try.ntmps80
   go_wp2_with (first|((with_reducible refine gate_dst (N:=15) rfl ?_);refine Kd.R_lit (Kd.int .u8) _ 5 ?hg (N:=15) ?hd (xs:=([(wrap64 (2*a0)) % 256]:List Int)) (inner:=[.int .u8 ((wrap64 (2*a0)) % 256)]) (ok:=fun _=>True) (okp:=fun _=>True) ?hr ?hp (fun _ hk=>hk) trivial (Below.refl _ _) (Nat.le_refl _) (by simp) ?_;(case hd=>rfl);(case hg=>rfl);(case hr=>first|(go_simp;done)|(go_simp;rfl));(case hp=>exact(Reps.one (show Kd.M (Kd.int .u8) _ _ _ ((wrap64 (2*a0)) % 256) [.int .u8 ((wrap64 (2*a0)) % 256)] from rfl) (Reps.none _ _)));intro v310 w9 ho10 hb hg_ hnew_;clear hg_ hnew_;(first|rw [← Ny309.out] at ho10|(simp only [Int.reduceToNat] at ho10;rw [← Ny309.out] at ho10));have n0_:=Aside0.mk (Kd.R_lower ho10 (below_size (by repeat(first|(with_reducible first|exact HB.out|apply below_alloc|apply Ka|apply below_drew1)|exact HB.out))));have n1_:=Aside0.mk (below_step (by repeat(first|(with_reducible first|exact HB.out|apply below_alloc|apply Ka|apply below_drew1)|exact HB.out)) hb);clear HB;have HO311:=n0_;have HB:=n1_;clear n0_ n1_;clear hb ho10))
   go_ret
   exact⟨_,by first|rfl|(simp [errW_none,errW_some] <;> rfl)|(simp [*,errW_none,errW_some] <;> rfl),by(with_reducible repeat(first|apply Kd.R_alloc|apply Kd.R_drewN|apply Kd.R_drew));exact HO311.out,by repeat(first|(with_reducible first|exact HB.out|apply below_alloc|apply Ka|apply below_drew1)|exact HB.out)⟩
  ·rw [if_neg c8] at H
   have c8b0:decide ((wrap64 (2*a0)) < 255)=false:=decide_eq_false c8
   clear c8
   obtain⟨y312,hy312⟩:∃ y_:List Int,y_=(([255,((wrap64 (2*a0)) / 256) % 256,(wrap64 (2*a0)) % 256]:List Int)):=⟨_,rfl⟩
   replace H:(some y312)=some r:=by first|(rw [hy312];with_reducible exact H)|(have H2_:=(Option.bind_some _ _).symm.trans H;rw [hy312];with_reducible exact H2_)|(have H2_:=(Option.bind_some _ _).symm.trans H;with_reducible exact H2_)|with_reducible exact H|(rw [hy312];exact H)|exact H
   have Ny312:=Aside0.mk hy312
   clear hy312
   obtain rfl:=Option.some.inj H
   go_enter Try.func80,Try.ntmps80
   go_wp2_with (first|((with_reducible refine gate_dst (N:=21) rfl ?_);refine Kd.R_lit (Kd.int .u8) _ 5 ?hg (N:=21) ?hd (xs:=([255,((wrap64 (2*a0)) / 256) % 256,(wrap64 (2*a0)) % 256]:List Int)) (inner:=[.int .u8 255,.int .u8 (((wrap64 (2*a0)) / 256) % 256),.int .u8 ((wrap64 (2*a0)) % 256)]) (ok:=fun _=>True) (okp:=fun _=>True) ?hr ?hp (fun _ hk=>hk) trivial (Below.refl _ _) (Nat.le_refl _) (by simp) ?_;(case hd=>rfl);(case hg=>rfl);(case hr=>first|(go_simp;done)|(go_simp;rfl));(case hp=>exact(Reps.one (show Kd.M (Kd.int .u8) _ _ _ 255 [.int .u8 255] from rfl) (Reps.one (show Kd.M (Kd.int .u8) _ _ _ (((wrap64 (2*a0)) / 256) % 256) [.int .u8 (((wrap64 (2*a0)) / 256) % 256)] from rfl) (Reps.one (show Kd.M (Kd.int .u8) _ _ _ ((wrap64 (2*a0)) % 256) [.int .u8 ((wrap64 (2*a0)) % 256)] from rfl) (Reps.none _ _)))));intro v313 w11 ho12 hb hg_ hnew_;clear hg_ hnew_;(first|rw [← Ny312.out] at ho12|(simp only [Int.reduceToNat] at ho12;rw [← Ny312.out] at ho12));have n0_:=Aside0.mk (Kd.R_lower ho12 (below_size (by repeat(first|(with_reducible first|exact HB.out|apply below_alloc|apply Ka|apply below_drew1)|exact HB.out))));have n1_:=Aside0.mk (below_step (by repeat(first|(with_reducible first|exact HB.out|apply below_alloc|apply Ka|apply below_drew1)|exact HB.out)) hb);clear HB;have HO314:=n0_;have HB:=n1_;clear n0_ n1_;clear hb ho12))
   go_ret
   exact⟨_,by first|rfl|(simp [errW_none,errW_some] <;> rfl)|(simp [*,errW_none,errW_some] <;> rfl),by(with_reducible repeat(first|apply Kd.R_alloc|apply Kd.R_drewN|apply Kd.R_drew));exact HO314.out,by repeat(first|(with_reducible first|exact HB.out|apply below_alloc|apply Ka|apply below_drew1)|exact HB.out)⟩

end Go.Proofs.Ytbdnpfjjaokdbaa.HFnExactEncode
