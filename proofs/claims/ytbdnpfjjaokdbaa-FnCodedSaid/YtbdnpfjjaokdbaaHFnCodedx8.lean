-- Laid by myprint.py, a program of this repo, out of the kit's printer and this repo's own texts (wip/hand).
import Derived.Test.YtbdnpfjjaokdbaaHFnCodedx0
import Derived.Test.YtbdnpfjjaokdbaaHFnCodedx7
namespace Go.Proofs.Ytbdnpfjjaokdbaa.HFnCoded
open Go.RowKit Go.Proofs.YtbdnpfjjaokdbaaW.PrintWords Go.Proofs.YtbdnpfjjaokdbaaW.PrintLast Go.Proofs.YtbdnpfjjaokdbaaW.PrintMore
attribute [local go_sem] max2_int min2_int max_two min_two max_three min_three max_four min_four   -- for this text's walks alone
set_option linter.unusedVariables false
set_option linter.unusedSimpArgs false

/-! ### spec_l9Round: function 77 -/
def spec_l9Round.f (a0 : Int) (a1 : Int) : Option (Int) := (spec_l8Down.f (wrap64 ((wrap64 (2 * a0)) + a1)) (wrap64 (2 * a1))).bind fun t186 => (some t186)
set_option maxHeartbeats 8000000 in
set_option maxRecDepth 100000 in
theorem spec_l9Round.calls (a0 : Int) (a1 : Int) (r : Int) (w : World) (h : spec_l9Round.f a0 a1 = some r) :
  Calls Try.prog 77 #[.int .i64 a0,.int .i64 a1] w fun e w'=>e=.returned (.int .i64 r)∧Drawn0 w w':=by
 have H:((spec_l8Down.f (wrap64 ((wrap64 (2*a0))+a1)) (wrap64 (2*a1))).bind fun t186=>(some t186))=some r:=h
 clear h
 replace H:=Option.bind_eq_some_iff.mp H
 obtain⟨t186,A30,H⟩:=H
 replace H:(some t186)=some r:=H
 have A3:=Aside0.mk A30
 clear A30
 obtain rfl:=Option.some.inj H
 go_enter Try.func77,Try.ntmps77
 go_wp2_with (first|((with_reducible refine gate_callee (f:=96) rfl ?_);refine goesL_ (some 11) rfl rfl Try.func96 (by kernel_rfl) rfl #[.int .i64 (wrap64 ((wrap64 (2*a0))+a1)),.int .i64 (wrap64 (2*a1))] rfl (by(try simp only [List.map_toArray,List.map_cons,List.map_nil]);first|done|rfl|(simp only [List.length_drop,List.length_take];rfl)) ?_;(with_reducible refine(spec_l8Down.calls (wrap64 ((wrap64 (2*a0))+a1)) (wrap64 (2*a1)) t186 _ A3.out).mono ?_);rintro e w' ⟨rfl,⟨nd,rfl⟩⟩;refine⟨_,rfl,?_⟩))
 go_ret
 exact⟨by first|rfl|(simp;done)|(simp [*];done),by repeat(first|exact Drawn0.refl _|apply Drawn0.step)⟩

end Go.Proofs.Ytbdnpfjjaokdbaa.HFnCoded
