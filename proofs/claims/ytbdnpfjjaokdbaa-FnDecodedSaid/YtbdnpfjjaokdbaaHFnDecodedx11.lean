-- Laid by myprint.py, a program of this repo, out of the kit's printer and this repo's own texts (wip/hand).
import Derived.Test.YtbdnpfjjaokdbaaHFnDecodedx0
import Derived.Test.YtbdnpfjjaokdbaaHFnDecodedx3
import Derived.Test.YtbdnpfjjaokdbaaHFnDecodedx9
import Derived.Test.YtbdnpfjjaokdbaaHFnDecodedx10
namespace Go.Proofs.Ytbdnpfjjaokdbaa.HFnDecoded
open Go.RowKit Go.Proofs.YtbdnpfjjaokdbaaW.PrintWords Go.Proofs.YtbdnpfjjaokdbaaW.PrintLast Go.Proofs.YtbdnpfjjaokdbaaW.PrintMore
attribute [local go_sem] max2_int min2_int max_two min_two max_three min_three max_four min_four   -- for this text's walks alone
set_option linter.unusedVariables false
set_option linter.unusedSimpArgs false
theorem La : type_of% @Aside0.mk := @Aside0.mk
theorem Lb : type_of% @blk_frozen := @blk_frozen
theorem Lc : type_of% @blk_cell := @blk_cell
theorem Ld : type_of% @Kd.R_drew := @Kd.R_drew
theorem Le : type_of% @Kd.R_alloc := @Kd.R_alloc
theorem Lf : type_of% @Kd.R_drewN := @Kd.R_drewN
theorem Lg : type_of% @Kd.V_mono := @Kd.V_mono
theorem Lh : type_of% @Kd.V_drew := @Kd.V_drew
theorem Li : type_of% @Kd.R_mono := @Kd.R_mono

/-! ### spec_DrawDecode: function 44 -/
open Go.Proofs.Ytbdnpfjjaokdbaa.PB
/-! #### the draws' cursor: where it stands (b: the bytes, i: how many are used) -/
def St (b : List Int) (i : Int) : Prop := 0 ≤ i ∧ i ≤ b.length ∧ b.length ≤ 4096
theorem and255 (x : Int) : 0 ≤ Go.bits .and .i64 x 255 ∧ Go.bits .and .i64 x 255 ≤ 255 := by
 have h:((BitVec.ofInt 64 x) &&& (BitVec.ofInt 64 255)).toNat≤255:=by
  rw [BitVec.toNat_and]
  exact Nat.le_trans Nat.and_le_right (by decide)
 have e:Go.bits .and .i64 x 255=IntKind.i64.wrap (((BitVec.ofInt 64 x) &&& (BitVec.ofInt 64 255)).toNat:Int):=rfl
 rw [e,IntKind.wrap_i64]
 omega
theorem byte_some {b : List Int} {i : Int} (h : Int) (hs : St b i) : SomeP (spec_l1Byte.f b i h) (fun r => (0 ≤ r.1 ∧ r.1 ≤ 255) ∧ St b r.2.1) := by
 obtain⟨h1,h2,h3⟩:=hs
 unfold spec_l1Byte.f
 refine somep_ite (fun hl=>somep_pos h1 (somep_now ⟨and255 _,?_⟩)) (fun hl=>somep_now ⟨and255 _,h1,h2,h3⟩)
 show St b (wrap64 (i+1))
 rw [w64 (by omega) (by omega)]
 exact⟨by omega,by omega,h3⟩
theorem below_some {b : List Int} {i : Int} (h : Int) (n : Int) (hs : St b i) : SomeP (spec_l1Below.f b i h n) (fun r => (0 ≤ r.1 ∧ (0 < n → r.1 < n)) ∧ St b r.2.1) := by
 unfold spec_l1Below.f
 refine somep_ite (fun hn=>somep_now ⟨⟨Int.le_refl _,fun h=>by omega⟩,hs⟩) (fun hn=>somep_ite (fun h2=>?_) (fun h2=>?_))
 ·refine somep_bind (byte_some h hs) (fun a ha=>somep_neg (by omega) (somep_now ⟨?_,ha.2⟩))
  have e:Int.tmod a.1 n=a.1 % n:=Int.tmod_eq_emod_of_nonneg ha.1.1
  show 0≤Int.tmod a.1 n∧(0 < n→Int.tmod a.1 n < n)
  rw [e]
  exact⟨Int.emod_nonneg _ (by omega),fun h=>Int.emod_lt_of_pos _ h⟩
 ·refine somep_bind (byte_some h hs) (fun a ha=>somep_bind (byte_some _ ha.2) (fun c hc=>somep_bind (byte_some _ hc.2) (fun d hd=>somep_bind (byte_some _ hd.2) (fun e he=>somep_neg (by omega) (somep_now ⟨?_,he.2⟩)))))
  have h1:=ha.1;have h3:=hc.1;have h4:=hd.1;have h5:=he.1
  have w1:wrap64 (a.1*16777216)=a.1*16777216:=w64 (by omega) (by omega)
  have w2:wrap64 (c.1*65536)=c.1*65536:=w64 (by omega) (by omega)
  have w3:wrap64 (d.1*256)=d.1*256:=w64 (by omega) (by omega)
  show 0≤Int.tmod (wrap64 (wrap64 (wrap64 (wrap64 (a.1*16777216)+wrap64 (c.1*65536))+wrap64 (d.1*256))+e.1)) n∧(0 < n→Int.tmod (wrap64 (wrap64 (wrap64 (wrap64 (a.1*16777216)+wrap64 (c.1*65536))+wrap64 (d.1*256))+e.1)) n < n)
  rw [w1,w2,w3,w64 (x:=a.1*16777216+c.1*65536) (by omega) (by omega),w64 (x:=a.1*16777216+c.1*65536+d.1*256) (by omega) (by omega),w64 (by omega) (by omega),Int.tmod_eq_emod_of_nonneg (by omega)]
  exact⟨Int.emod_nonneg _ (by omega),fun h=>Int.emod_lt_of_pos _ h⟩
theorem new_ev (code : List Int) (hc : code.length ≤ 4096) : EvP (fun k => spec_l1New.f k code) (fun r => r.1 = code ∧ St code r.2.1) := by
 have key:∀ d i (h:Int),i+d=code.length→EvP (fun k=>spec_l1New.l0 k code h (i:Int)) (fun r=>r.1=code∧St code r.2.1):=by
  intro d
  induction d with
  | zero =>
   intro i h hi
   refine evp_succ ?_
   have h1 : ¬ (i:Int) < (code.length:Int):=by omega
   simp only [spec_l1New.l0,h1,if_false]
   exact evp_now ⟨rfl,by refine⟨Int.le_refl _,?_,hc⟩;show(0:Int)≤code.length;omega⟩
  | succ d ih =>
   intro i h hi
   refine evp_succ ?_
   have h1:(i:Int) < (code.length:Int):=by omega
   have h2:(0:Int)≤(i:Int):=by omega
   have h4:=w64s (n:=i) (by omega)
   simp only [spec_l1New.l0,h1,h2,h4,if_true]
   exact ih (i+1) _ (by omega)
 exact key code.length 0 _ (by omega)
theorem once_some {b : List Int} {i : Int} (h : Int) (n : Int) (hs : St b i) : SomeP (spec_l1Once.f b i h n) (fun r => St b r.2.1) := by
 unfold spec_l1Once.f
 exact somep_bind (below_some h n hs) (fun a ha=>somep_now ha.2)
theorem from_some {b : List Int} {i : Int} (h : Int) (lo hi : Int) (hs : St b i) (h1 : -1000000000000 ≤ lo) (h2 : lo ≤ hi) (h3 : hi ≤ 1000000000000) : SomeP (spec_l1From.f b i h lo hi) (fun r => (lo ≤ r.1 ∧ r.1 ≤ hi) ∧ St b r.2.1) := by
 unfold spec_l1From.f
 have e:wrap64 (wrap64 (hi - lo)+1)=hi - lo+1:=by rw [w64 (x:=hi - lo) (by omega) (by omega),w64 (by omega) (by omega)]
 rw [e]
 refine somep_bind (below_some h _ hs) (fun a ha=>somep_now ⟨?_,ha.2⟩)
 have:=ha.1.2 (by omega)
 have:=ha.1.1
 show lo≤wrap64 (lo+a.1)∧wrap64 (lo+a.1)≤hi
 rw [w64 (by omega) (by omega)]
 omega

def CurQ (w0 : World) (b : List Int) (g : Nat) (w W : World) : Prop := ∃ i h : Int, St b i ∧ IsS84 w0 W g b i h ∧ Below w0.heap.size w0 W ∧ KeepBut w W g none
theorem CurQ.trans {w0 w W W' : World} {b : List Int} {g : Nat} (h1 : CurQ w0 b g w W) (h2 : CurQ w0 b g W W') : CurQ w0 b g w W' := by
 obtain⟨_,_,_,_,_,k1⟩:=h1
 obtain⟨i,h,s,q,bl,k2⟩:=h2
 exact⟨i,h,s,q,bl,KeepBut.trans k1 k2 (.inl rfl)⟩
theorem CurQ.drewN {w0 w W : World} {b : List Int} {g : Nat} (h1 : CurQ w0 b g w W) (n : Nat) : CurQ w0 b g w (W.drewN n) := by
 obtain⟨i,h,s,q,bl,k⟩:=h1
 exact⟨i,h,s,IsS84.drewN q n,pw_below_drewN bl n,keep_drewN k n⟩
theorem CurQ.alloc {w0 w W : World} {b : List Int} {g : Nat} (h1 : CurQ w0 b g w W) (o : Obj) : CurQ w0 b g w (W.alloc o) := by
 obtain⟨i,h,s,q,bl,k⟩:=h1
 exact⟨i,h,s,IsS84.alloc q o,below_alloc bl o,keep_alloc k o⟩
theorem CurQ.refl {w0 w : World} {b : List Int} {g : Nat} {i h : Int} (s : St b i) (q : IsS84 w0 w g b i h) (bl : Below w0.heap.size w0 w) : CurQ w0 b g w w := ⟨i, h, s, q, bl, ⟨Nat.le_refl _, fun _ _ _ _ => rfl⟩⟩
theorem CurQ.from_ {w0 wc w : World} {b : List Int} {g : Nat} (h : CurQ w0 b g wc w) : CurQ w0 b g w w := by
 obtain⟨i,h',s,q,bl,_⟩:=h
 exact CurQ.refl s q bl
theorem CurQ.below {w0 w W W' : World} {b : List Int} {g : Nat} (h1 : CurQ w0 b g w W) (hb : Below W.heap.size W W') : CurQ w0 b g w W' := by
 obtain⟨i,h,s,q,bl,k⟩:=h1
 exact⟨i,h,s,IsS84.below q hb,below_step bl hb,KeepBut.trans k (KeepBut.of_below hb g none) (.inl rfl)⟩
theorem cur_size {w0 w W : World} {b : List Int} {g : Nat} (h1 : CurQ w0 b g w W) : w.heap.size ≤ W.heap.size := by
 obtain⟨_,_,_,_,_,k⟩:=h1
 exact k.1
theorem cur_blw {w0 w W : World} {b : List Int} {g : Nat} (h1 : CurQ w0 b g w W) : Below w0.heap.size w0 W := by
 obtain⟨_,_,_,_,bl,_⟩:=h1
 exact bl
theorem R_curI {α : Type} {d : Kd α} {w0 w W W' : World} {b : List Int} {g e base : Nat} {ok : Nat → Prop} {v : Value} {xs : List α} (he : ∀ q, q ∈ e :: d.E → q ≠ 84) (h : d.R e W base ok v xs) (h1 : CurQ w0 b g w W) (h2 : CurQ w0 b g W W') : d.R e W' base ok v xs := by
 obtain⟨_,_,_,q,_,_⟩:=h1
 obtain⟨_,_,_,_,_,k⟩:=h2
 exact Li (Kd.R_keep (IsS84.apart q h he) k (fun _ hk=>hk.2)) (fun _ hk=>hk.1)
theorem cur_append {α : Type} {d : Kd α} {w0 w W W' : World} {b : List Int} {g e base : Nat} {v : Value} {xs : List α} (he : e ≠ 84) (h1 : CurQ w0 b g w W) (ho : d.R e W base (fun k => w.heap.size ≤ k) v xs) (hg : W.grownBy W' v.ownBlock) (hb : Below w0.heap.size w0 W') : CurQ w0 b g w W' := by
 obtain⟨i,h,s,q,bl,k⟩:=h1
 refine⟨i,h,s,IsS84.grown q hg (q.own_ne ho he),hb,KeepBut.trans k (KeepBut.of_grown hg g) ?_⟩
 cases hv:v.ownBlock with
 | none => exact .inl rfl
 | some x => exact .inr ⟨x, rfl, ho.1 x hv⟩
theorem cur_below {w0 w W : World} {b : List Int} {g : Nat} (n : Int) (h : CurQ w0 b g w W) :
  Calls Try.prog 65 #[.pointer (some ⟨g,0,none⟩),.int .i64 n] W fun e w'=>∃ r:Int,e=.returned (.int .i64 r)∧(0≤r∧(0 < n→r < n))∧CurQ w0 b g W w':=by
 obtain⟨i,h',s,q,bl,k⟩:=h
 obtain⟨⟨r1,r2,r3⟩,hf,hr,hs⟩:=below_some h' n s
 refine(spec_l1Below.calls g b i h' n r1 r2 r3 w0 W q bl hf).mono ?_
 rintro e w' ⟨rfl,hI,hB,hK⟩
 exact⟨r1,rfl,hr,r2,r3,hs,hI,hB,hK⟩
theorem cur_once {w0 w W : World} {b : List Int} {g : Nat} (n : Int) (h : CurQ w0 b g w W) :
  Calls Try.prog 64 #[.pointer (some ⟨g,0,none⟩),.int .i64 n] W fun e w'=>∃ r:Bool,e=.returned (.bool r)∧CurQ w0 b g W w':=by
 obtain⟨i,h',s,q,bl,k⟩:=h
 obtain⟨⟨r1,r2,r3⟩,hf,hs⟩:=once_some h' n s
 refine(spec_l1Once.calls g b i h' n r1 r2 r3 w0 W q bl hf).mono ?_
 rintro e w' ⟨rfl,hI,hB,hK⟩
 exact⟨r1,rfl,r2,r3,hs,hI,hB,hK⟩
theorem cur_from {w0 w W : World} {b : List Int} {g : Nat} (lo hi : Int) (h1 : -1000000000000 ≤ lo) (h2 : lo ≤ hi) (h3 : hi ≤ 1000000000000) (h : CurQ w0 b g w W) :
  Calls Try.prog 63 #[.pointer (some ⟨g,0,none⟩),.int .i64 lo,.int .i64 hi] W fun e w'=>∃ r:Int,e=.returned (.int .i64 r)∧(lo≤r∧r≤hi)∧CurQ w0 b g W w':=by
 obtain⟨i,h',s,q,bl,k⟩:=h
 obtain⟨⟨r1,r2,r3⟩,hf,hr,hs⟩:=from_some h' lo hi s h1 h2 h3
 refine(spec_l1From.calls g b i h' lo hi r1 r2 r3 w0 W q bl hf).mono ?_
 rintro e w' ⟨rfl,hI,hB,hK⟩
 exact⟨r1,rfl,hr,r2,r3,hs,hI,hB,hK⟩
def Blk (w W : World) (gp : Nat) (cs : Array Value) : Prop := w.heap.size ≤ gp ∧ W.heap[gp]? = some (.cells cs 27 (0, 0))
def PV (w0 w W : World) (gp : Nat) (a c : Int) (xs : List Int) : Prop := ∃ v, Blk w W gp #[.int .i64 a, .int .i64 c, v] ∧ Kd.R (Kd.int .i64) 2 W w0.heap.size (fun k => w.heap.size ≤ k) v xs
theorem Blk.cur {w0 w W W' : World} {b : List Int} {g gp : Nat} {cs : Array Value} (h : Blk w W gp cs) (h1 : CurQ w0 b g w W) (h2 : CurQ w0 b g W W') : Blk w W' gp cs := by
 obtain⟨hg,hb⟩:=h
 obtain⟨_,_,_,q,_,_⟩:=h1
 obtain⟨_,_,_,_,_,k⟩:=h2
 exact⟨hg,(k.2 gp (blk_lt hb) (fun e=>q.ne_blk hb (by decide) e.symm) (by simp)).trans hb⟩
theorem Blk.alloc {w W : World} {gp : Nat} {cs : Array Value} (h : Blk w W gp cs) (o : Obj) : Blk w (W.alloc o) gp cs := ⟨h.1, blk_alloc h.2 o⟩
theorem Blk.drewN {w W : World} {gp : Nat} {cs : Array Value} (h : Blk w W gp cs) (n : Nat) : Blk w (W.drewN n) gp cs := h
theorem Blk.below {w W W' : World} {gp : Nat} {cs : Array Value} (h : Blk w W gp cs) (hb : Below W.heap.size W W') : Blk w W' gp cs := ⟨h.1, blk_below h.2 hb⟩
theorem Blk.far {w W : World} {gp : Nat} {cs : Array Value} (h : Blk w W gp cs) {p : Addr} (hp : gp ≠ p.block) (u : Value) : Blk w (W.setCell p u) gp cs := ⟨h.1, blk_far h.2 hp u⟩
theorem Blk.put {w W : World} {gp : Nat} {cs : Array Value} (h : Blk w W gp cs) (i : Nat) (u : Value) : Blk w (W.setCell ⟨gp, i, none⟩ u) gp (cs.setIfInBounds i u) := ⟨h.1, blk_put h.2 i u rfl⟩
theorem CurQ.setB {w0 w W : World} {b : List Int} {g gp : Nat} {cs : Array Value} (h1 : CurQ w0 b g w W) (h : Blk w W gp cs) (i : Nat) (u : Value) (hw : w0.heap.size ≤ w.heap.size) : CurQ w0 b g w (W.setCell ⟨gp, i, none⟩ u) := by
 obtain⟨i',h',s,q,bl,k⟩:=h1
 exact⟨i',h',s,IsS84.far q (q.ne_blk h.2 (by decide)) u,below_set bl (Nat.le_trans hw h.1),keep_far k h.1 u⟩
theorem PV.cur {w0 w W W' : World} {b : List Int} {g gp : Nat} {a c : Int} {xs : List Int} (h : PV w0 w W gp a c xs) (h1 : CurQ w0 b g w W) (h2 : CurQ w0 b g W W') : PV w0 w W' gp a c xs := by
 obtain⟨v,hb,hr⟩:=h
 exact⟨v,hb.cur h1 h2,R_curI (by decide) hr h1 h2⟩
theorem PV.alloc {w0 w W : World} {gp : Nat} {a c : Int} {xs : List Int} (h : PV w0 w W gp a c xs) (o : Obj) : PV w0 w (W.alloc o) gp a c xs := by
 obtain⟨v,hb,hr⟩:=h
 exact⟨v,hb.alloc o,Le hr o⟩
theorem PV.drewN {w0 w W : World} {gp : Nat} {a c : Int} {xs : List Int} (h : PV w0 w W gp a c xs) (n : Nat) : PV w0 w (W.drewN n) gp a c xs := h
theorem PV.open_ {w0 w W : World} {gp : Nat} {a c : Int} {xs : List Int} (h : PV w0 w W gp a c xs) : ∃ A cc, Blk w W gp #[.int .i64 a, .int .i64 c, .slice A xs.length cc] ∧ Kd.R (Kd.int .i64) 2 W w0.heap.size (fun k => w.heap.size ≤ k) (.slice A xs.length cc) xs ∧ (W.cell? ⟨gp, 0, none⟩ = some (.int .i64 a) ∧ W.cell? ⟨gp, 1, none⟩ = some (.int .i64 c) ∧ W.cell? ⟨gp, 2, none⟩ = some (.slice A xs.length cc)) ∧ (W.frozen? ⟨gp, 0, none⟩ = false ∧ W.frozen? ⟨gp, 1, none⟩ = false ∧ W.frozen? ⟨gp, 2, none⟩ = false) := by
 obtain⟨v,hb,hr⟩:=h
 obtain⟨A,cc,rfl⟩:=Kd.R_slice hr
 exact⟨A,cc,hb,hr,⟨(Lc hb.2 0).trans rfl,(Lc hb.2 1).trans rfl,(Lc hb.2 2).trans rfl⟩,Lb hb.2 0,Lb hb.2 1,Lb hb.2 2⟩
theorem finfoI : (Try.prog.info? 2).map (fun i => (i.zero, i.size, i.bytes)) = some (some (.int .i64 0), 1, 8) := by kernel_rfl
theorem R_appendi {P : Program} {ops : Array Oper} {rest : List Oper} {o : Oper} {a : Act} {Q : Exit → Act → World → Prop} {w0 W : World} {b : Int} (base : Nat) (hgd : o.guard = none) (s x : Operand) (t e : TypeId)
  (ho:o.op=.call { callee:=.builtin .append,args:=#[s,x],argTypes:=#[t,t] })
  (ht:P.underlying t=some (.slice e)) (hinfo:(P.info? e).map (fun i=>(i.zero,i.size,i.bytes))=some (some (.int .i64 0),1,8))
  (v:Value) (xs:List Int) (ok:Nat→Prop) (hs:a.eval s=v) (hx:a.eval x=.slice (some ⟨W.heap.size,0,none⟩) 1 1) (hfresh:∀ k,W.heap.size≤k→ok k)
  (HO:Kd.R (Kd.int .i64) e W base ok v xs) (HB:Below base w0 W) (hbase:base≤W.heap.size) (hl:(xs.length+1)*8≤140737488355328)
  (h:∀ v1 w1 (ys:List Int),ys.length=xs.length+1→Kd.R (Kd.int .i64) e w1 base ok v1 ys→Below base w0 w1→W.grownBy w1 v.ownBlock→wpList P ops Q rest (a.put o.dst v1) w1) :
  wpList P ops Q (o :: rest) a (W.alloc (.cells #[.int .i64 b] e)):=
 Kd.R_append (Kd.int .i64) base hgd s x t e (.int .i64 0) 8 ho ht hinfo rfl (by decide) (by omega) v xs b [.int .i64 b] ok (fun _=>False) hs hx rfl (fun _ hk=>hk.elim) hfresh HO HB hbase hl (fun v1 w1 h1 h2 h3 _=>h v1 w1 (xs ++ [b]) (by simp) h1 h2 h3)
theorem PV.put {w0 w W : World} {gp : Nat} {a c : Int} {u v : Value} {xs : List Int} (hb : Blk w W gp #[.int .i64 a, .int .i64 c, u]) (hr : Kd.R (Kd.int .i64) 2 W w0.heap.size (fun k => w.heap.size ≤ k) v xs) : PV w0 w (W.setCell ⟨gp, 2, none⟩ v) gp a c xs :=
 ⟨v,hb.put 2 v,Li (Kd.R_far (p:=⟨gp,2,none⟩) (Kd.R_types hr hb.2 (by decide)) (fun _ hk=>hk.2) v) (fun _ hk=>hk.1)⟩
theorem Blk.grown {w W W' : World} {gp base : Nat} {cs : Array Value} {v : Value} {xs : List Int} {ok : Nat → Prop} (h : Blk w W gp cs) (hr : Kd.R (Kd.int .i64) 2 W base ok v xs) (hg : W.grownBy W' v.ownBlock) : Blk w W' gp cs := ⟨h.1, blk_grown h.2 hg (Kd.R_ne hr h.2 (by decide))⟩
theorem Blk.set3 {w W : World} {gp : Nat} {u0 u1 u2 : Value} (h : Blk w W gp #[u0, u1, u2]) (x y z : Value) : Blk w (((W.setCell ⟨gp, 0, none⟩ x).setCell ⟨gp, 1, none⟩ y).setCell ⟨gp, 2, none⟩ z) gp #[x, y, z] := ((h.put 0 x).put 1 y).put 2 z
theorem Blk.far3 {w W : World} {gq gp : Nat} {cs : Array Value} (h : Blk w W gq cs) (hne : gq ≠ gp) (x y z : Value) : Blk w (((W.setCell ⟨gp, 0, none⟩ x).setCell ⟨gp, 1, none⟩ y).setCell ⟨gp, 2, none⟩ z) gq cs := ((h.far (p := ⟨gp, 0, none⟩) hne x).far (p := ⟨gp, 1, none⟩) hne y).far (p := ⟨gp, 2, none⟩) hne z
theorem CurQ.set3 {w0 w W : World} {b : List Int} {g gp : Nat} {u0 u1 u2 : Value} (h1 : CurQ w0 b g w W) (h : Blk w W gp #[u0, u1, u2]) (hw : w0.heap.size ≤ w.heap.size) (x y z : Value) : CurQ w0 b g w (((W.setCell ⟨gp, 0, none⟩ x).setCell ⟨gp, 1, none⟩ y).setCell ⟨gp, 2, none⟩ z) := ((h1.setB h 0 x hw).setB (h.put 0 x) 1 y hw).setB ((h.put 0 x).put 1 y) 2 z hw
theorem R_set3 {w W : World} {gp base : Nat} {cs : Array Value} {v : Value} {xs : List Int} {ok : Nat → Prop} (hr : Kd.R (Kd.int .i64) 2 W base ok v xs) (h : Blk w W gp cs) (x y z : Value) : Kd.R (Kd.int .i64) 2 (((W.setCell ⟨gp, 0, none⟩ x).setCell ⟨gp, 1, none⟩ y).setCell ⟨gp, 2, none⟩ z) base ok v xs :=
 Li (Kd.R_far (p:=⟨gp,2,none⟩) (Kd.R_far (p:=⟨gp,1,none⟩) (Kd.R_far (p:=⟨gp,0,none⟩) (Kd.R_types hr h.2 (by decide)) (fun _ hk=>hk.2) x) (fun _ hk=>hk.2) y) (fun _ hk=>hk.2) z) (fun _ hk=>hk.1)
theorem PV.far3 {w0 w W : World} {gq gp : Nat} {a c : Int} {xs : List Int} {u0 u1 u2 : Value} (h : PV w0 w W gq a c xs) (hp : Blk w W gp #[u0, u1, u2]) (hne : gq ≠ gp) (x y z : Value) : PV w0 w (((W.setCell ⟨gp, 0, none⟩ x).setCell ⟨gp, 1, none⟩ y).setCell ⟨gp, 2, none⟩ z) gq a c xs := by
 obtain⟨v,hb,hr⟩:=h
 exact⟨v,hb.far3 hne x y z,R_set3 hr hp x y z⟩
theorem min_eq_i (a c : Int) : spec_l1Min.f a c = some (min a c) := by
 unfold spec_l1Min.f
 split
 ·congr 1;omega
 ·congr 1;omega
theorem PV.below {w0 w W W' : World} {gp : Nat} {a c : Int} {xs : List Int} (h : PV w0 w W gp a c xs) (hb : Below W.heap.size W W') : PV w0 w W' gp a c xs := by
 obtain⟨v,hbk,hr⟩:=h
 exact⟨v,hbk.below hb,Kd.R_below hr hb⟩
theorem side_of (r : Int) (h1 : 0 ≤ r) (h2 : r < 3) : wrap64 (1 + r) = 1 + r ∧ ∃ a : Int, wrap64 (4 * (1 + r)) = a ∧ (a = 4 ∨ a = 8 ∨ a = 12) := by
 refine⟨by unfold wrap64;omega,4*(1+r),by unfold wrap64;omega,by omega⟩
theorem sides {a c : Int} (h1 : a = 4 ∨ a = 8 ∨ a = 12) (h2 : c = 4 ∨ c = 8 ∨ c = 12) : ∃ n : Nat, a * c = (n : Int) ∧ 16 ≤ n ∧ n ≤ 144 := by
 rcases h1 with rfl|rfl|rfl <;> rcases h2 with rfl|rfl|rfl
 ·exact⟨16,rfl,by omega,by omega⟩
 ·exact⟨32,rfl,by omega,by omega⟩
 ·exact⟨48,rfl,by omega,by omega⟩
 ·exact⟨32,rfl,by omega,by omega⟩
 ·exact⟨64,rfl,by omega,by omega⟩
 ·exact⟨96,rfl,by omega,by omega⟩
 ·exact⟨48,rfl,by omega,by omega⟩
 ·exact⟨96,rfl,by omega,by omega⟩
 ·exact⟨144,rfl,by omega,by omega⟩
theorem PV.make {w0 w W : World} {gp : Nat} {u0 u1 u2 v : Value} {xs : List Int} (hb : Blk w W gp #[u0, u1, u2]) (a c : Int) (hr : Kd.R (Kd.int .i64) 2 W w0.heap.size (fun k => w.heap.size ≤ k) v xs) : PV w0 w (((W.setCell ⟨gp, 0, none⟩ (.int .i64 a)).setCell ⟨gp, 1, none⟩ (.int .i64 c)).setCell ⟨gp, 2, none⟩ v) gp a c xs :=
 ⟨v,hb.set3 _ _ _,R_set3 hr hb _ _ _⟩
theorem lit_i {w : World} {base : Nat} {ok : Nat → Prop} (xs : List Int) : Reps (Kd.M (Kd.int .i64) w base ok) 1 xs (xs.map (Value.int .i64)) := by
 refine⟨by simp,fun j p hj=>?_⟩
 have hb:(xs.map (Value.int .i64))[j]? = some (.int .i64 p):=by rw [List.getElem?_map,hj];rfl
 obtain⟨hlt,he⟩:=List.getElem?_eq_some_iff.1 hb
 show((((xs.map (Value.int .i64)).drop (j*1)).take 1) = [Value.int .i64 p])
 rw [Nat.mul_one,List.drop_eq_getElem_cons hlt,he]
 rfl
theorem PV.far {w0 w W : World} {gq gp j : Nat} {a c : Int} {xs : List Int} {cs : Array Value} (h : PV w0 w W gq a c xs) (hp : Blk w W gp cs) (hne : gq ≠ gp) (x : Value) : PV w0 w (W.setCell ⟨gp, j, none⟩ x) gq a c xs := by
 obtain⟨v,hb,hr⟩:=h
 exact⟨v,hb.far (p:=⟨gp,j,none⟩) hne x,Li (Kd.R_far (p:=⟨gp,j,none⟩) (Kd.R_types hr hp.2 (by decide)) (fun _ hk=>hk.2) x) (fun _ hk=>hk.1)⟩
theorem v_cut {w W : World} {g2 g3 g7 base cc : Nat} {c2 c3 c7 : Array Value} {A : Option Addr} {xs : List Int} (h : Kd.R (Kd.int .i64) 2 W base (fun k => w.heap.size ≤ k) (.slice A xs.length cc) xs) (h2 : Blk w W g2 c2) (h3 : Blk w W g3 c3) (h7 : Blk w W g7 c7) (hl : 1 ≤ xs.length) : Kd.V (Kd.int .i64) 2 W base (fun k => ((w.heap.size ≤ k ∧ k ≠ g2) ∧ k ≠ g3) ∧ k ≠ g7) (.slice (if cc = 1 then A else A.map (·.add (1 * 1))) (xs.length - 1) (cc - 1)) (xs.drop 1) := by
 have hc:=(Kd.R_reads' h).2.1
 have r:=Kd.R_types (Kd.R_types (Kd.R_types h h2.2 (by decide)) h3.2 (by decide)) h7.2 (by decide)
 have f:=Kd.F_cut (Kd.R_F r) hl hc
 have v:=Kd.V_mk (e:=2) (base:=base) (c:=cc - 1) (by rw [List.length_drop];omega) f
 rw [List.length_drop] at v
 exact v
theorem V_set3 {W : World} {gp base : Nat} {v : Value} {xs : List Int} {ok : Nat → Prop} (h : Kd.V (Kd.int .i64) 2 W base ok v xs) (hok : ∀ k, ok k → k ≠ gp) (x y z : Value) : Kd.V (Kd.int .i64) 2 (((W.setCell ⟨gp, 0, none⟩ x).setCell ⟨gp, 1, none⟩ y).setCell ⟨gp, 2, none⟩ z) base ok v xs :=
 Kd.V_far (p:=⟨gp,2,none⟩) (Kd.V_far (p:=⟨gp,1,none⟩) (Kd.V_far (p:=⟨gp,0,none⟩) h hok x) hok y) hok z
theorem R_okx {w W : World} {g2 g3 base : Nat} {c2 c3 : Array Value} {v : Value} {xs : List Int} (h : Kd.R (Kd.int .i64) 2 W base (fun k => w.heap.size ≤ k) v xs) (h2 : Blk w W g2 c2) (h3 : Blk w W g3 c3) : Kd.V (Kd.int .i64) 2 W base (fun k => (w.heap.size ≤ k ∧ k ≠ g2) ∧ k ≠ g3) v xs := Kd.R_V (Kd.R_types (Kd.R_types h h2.2 (by decide)) h3.2 (by decide))
theorem Blk.drew {w W : World} {gp : Nat} {cs : Array Value} (h : Blk w W gp cs) : Blk w W.drew gp cs := h
theorem CurQ.drew {w0 w W : World} {b : List Int} {g : Nat} (h1 : CurQ w0 b g w W) : CurQ w0 b g w W.drew := h1.drewN 1
theorem at_all {a c : Int} {xs : List Int} (ha : a = 4 ∨ a = 8 ∨ a = 12) (hc : c = 4 ∨ c = 8 ∨ c = 12) (hl : (xs.length : Int) = a * c) (x y : Int) : ∃ r, spec_l14At.f a c xs x y = some r := by
 have hmax:∀ z,spec_l1Max.f 0 z=some (max 0 z):=by
  intro z;unfold spec_l1Max.f;split
  ·congr 1;omega
  ·congr 1;omega
 have hmin:∀ z u,spec_l1Min.f z u=some (min z u):=min_eq_i
 unfold spec_l14At.f
 simp only [hmax,hmin,Option.bind_some]
 have e1:wrap64 (a - 1)=a - 1:=w64 (by omega) (by omega)
 have e2:wrap64 (c - 1)=c - 1:=w64 (by omega) (by omega)
 rw [e1,e2]
 obtain⟨u,hu⟩:∃ u,u=min (a - 1) (max 0 x):=⟨_,rfl⟩
 obtain⟨v,hv⟩:∃ v,v=min (c - 1) (max 0 y):=⟨_,rfl⟩
 rw [← hu,← hv]
 have hu2:0≤u∧u≤a - 1:=by omega
 have hv2:0≤v∧v≤c - 1:=by omega
 have h:0≤v*a+u∧v*a+u < a*c∧0≤v*a∧v*a≤1000:=by
  rcases ha with rfl|rfl|rfl <;> omega
 have e3:wrap64 (v*a)=v*a:=w64 (by omega) (by omega)
 have e4:wrap64 (v*a+u)=v*a+u:=w64 (by omega) (by omega)
 rw [e3,e4,if_pos h.1,if_pos (by omega)]
 exact⟨_,rfl⟩
theorem at_calls {a c : Int} {xs : List Int} {A : Option Addr} {cc : Nat} {w : World} (ha : a = 4 ∨ a = 8 ∨ a = 12) (hc : c = 4 ∨ c = 8 ∨ c = 12) (hl : (xs.length : Int) = a * c) (x y : Int) (hr : Kd.C (Kd.int .i64) w A xs.length xs) (hcc : xs.length ≤ cc) :
  Calls Try.prog 93 #[.agg #[.int .i64 a,.int .i64 c,.slice A xs.length cc],.int .i64 x,.int .i64 y] w fun e w'=>∃ r:Int,e=.returned (.int .i64 r)∧Below w.heap.size w w':=by
 obtain⟨r,h⟩:=at_all ha hc hl x y
 refine(spec_l14At.calls a c A cc xs x y r w hr hcc h).mono ?_
 rintro e w' ⟨rfl,hb⟩
 exact⟨r,rfl,hb⟩
theorem R_appendh {P : Program} {ops : Array Oper} {rest : List Oper} {o : Oper} {a : Act} {Q : Exit → Act → World → Prop} {w0 W : World} {b : Int} (base : Nat) (hgd : o.guard = none) (s x : Operand) (t e : TypeId)
  (ho:o.op=.call { callee:=.builtin .append,args:=#[s,x],argTypes:=#[t,t] })
  (ht:P.underlying t=some (.slice e)) (hinfo:(P.info? e).map (fun i=>(i.zero,i.size,i.bytes))=some (some (.int .i64 0),1,8))
  (v:Value) (xs:List Int) (ok:Nat→Prop) (hs:a.eval s=v) (hx:a.eval x=.slice (some ⟨W.heap.size,0,none⟩) 1 1) (hfresh:∀ k,W.heap.size≤k→ok k)
  (HO:Kd.R (Kd.int .i64) e W base ok v xs) (HB:Below base w0 W) (hbase:base≤W.heap.size) (hl:(xs.length+1)*8≤140737488355328)
  (h:∀ v1 w1 (ys:List Int),ys.length=xs.length+1→Kd.R (Kd.int .i64) e w1 base ok v1 ys→Below base w0 w1→W.grownBy w1 v.ownBlock→(v1.ownBlock=v.ownBlock ∨ ∃ b,v1.ownBlock=some b∧W.heap.size≤b)→wpList P ops Q rest (a.put o.dst v1) w1) :
  wpList P ops Q (o :: rest) a (W.alloc (.cells #[.int .i64 b] e)):=
 Kd.R_append (Kd.int .i64) base hgd s x t e (.int .i64 0) 8 ho ht hinfo rfl (by decide) (by omega) v xs b [.int .i64 b] ok (fun _=>False) hs hx rfl (fun _ hk=>hk.elim) hfresh HO HB hbase hl (fun v1 w1 h1 h2 h3 h4=>h v1 w1 (xs ++ [b]) (by simp) h1 h2 h3 h4)
theorem R_setB {w W : World} {gp j base : Nat} {cs : Array Value} {v : Value} {xs : List Int} {ok : Nat → Prop} (hr : Kd.R (Kd.int .i64) 2 W base ok v xs) (h : Blk w W gp cs) (x : Value) : Kd.R (Kd.int .i64) 2 (W.setCell ⟨gp, j, none⟩ x) base ok v xs :=
 Li (Kd.R_far (p:=⟨gp,j,none⟩) (Kd.R_types hr h.2 (by decide)) (fun _ hk=>hk.2) x) (fun _ hk=>hk.1)
theorem side_ne {a : Int} (h : a = 4 ∨ a = 8 ∨ a = 12) : (a == 0) = false ∧ (a = 0) = False := ⟨beq_eq_false_iff_ne.2 (by omega), eq_false (by omega)⟩
theorem wrap_n {x : Int} {n : Nat} (h : x = (n : Int)) (hn : n ≤ 1000) : wrap64 x = (n : Int) := by rw [h]; unfold wrap64; omega
theorem wrap_i {i n : Nat} (h : i < n) (hn : n ≤ 1000) : wrap64 ((i : Int) + 1) = ((i + 1 : Nat) : Int) := by unfold wrap64; omega
theorem app_lim {xs : List Int} {i n : Nat} (h : xs.length = i) (h1 : i < n) (hn : n ≤ 1000) : (xs.length + 1) * 8 ≤ 140737488355328 := by omega
theorem len_nat {xs : List Int} {n : Nat} {a c : Int} (h : xs.length = n) (h2 : a * c = (n : Int)) : (xs.length : Int) = a * c := by rw [h, h2]
theorem R_apart0 {w W : World} {base : Nat} {v : Value} {xs : List Int} (h : Kd.R (Kd.int .i64) 2 W base (fun k => w.heap.size ≤ k) v xs) : Kd.R (Kd.int .i64) 2 W base (fun k => w.heap.size ≤ k ∧ some k ≠ (Value.slice none 0 0).ownBlock) v xs := Li h (fun k hk => ⟨hk, by simp [Value.ownBlock]⟩)
theorem PV.drew {w0 w W : World} {gp : Nat} {a c : Int} {xs : List Int} (h : PV w0 w W gp a c xs) : PV w0 w W.drew gp a c xs := h
theorem sub_lt2_ {n i gk : Nat} (h : n - i ≤ gk) (hlt : i < n) : n - (i + 1) < gk := by omega
theorem CurQ.setR {w0 w W : World} {b : List Int} {g go : Nat} {cs : Array Value} (h1 : CurQ w0 b g w W) (hg : W.heap[go]? = some (.cells cs 2 (0, 0))) (hle : w.heap.size ≤ go) (i : Nat) (u : Value) (hw : w0.heap.size ≤ w.heap.size) : CurQ w0 b g w (W.setCell ⟨go, i, none⟩ u) := by
 obtain⟨i',h',s,q,bl,k⟩:=h1
 exact⟨i',h',s,IsS84.far q (q.ne_blk hg (by decide)) u,below_set bl (Nat.le_trans hw hle),keep_far k hle u⟩
theorem own_ne_ {go gp : Nat} {n c : Nat} (h : some gp ≠ (Value.slice (some ⟨go, 0, none⟩) n c).ownBlock) : gp ≠ go := fun e => h (by rw [e]; rfl)
structure TwoQ (w0 w W : World) (b : List Int) (g g2 g3 g6 g7 n : Nat) (a c : Int) (A6 : Option Addr) (c6 : Nat) (xs6 : List Int) (A7 : Option Addr) (c7 : Nat) (xs7 : List Int) : Prop where
 l7 : xs7.length = n
 z2 : Blk w W g2 #[.int .i64 0, .int .i64 0, .slice none 0 0]
 z3 : Blk w W g3 #[.int .i64 0, .int .i64 0, .slice none 0 0]
 b6 : Blk w W g6 #[.int .i64 a, .int .i64 c, .slice A6 xs6.length c6]
 b7 : Blk w W g7 #[.int .i64 a, .int .i64 c, .slice A7 xs7.length c7]
 r6 : Kd.R (Kd.int .i64) 2 W w0.heap.size (fun k => w.heap.size ≤ k ∧ some k ≠ (Value.slice A7 xs7.length c7).ownBlock) (.slice A6 xs6.length c6) xs6
 r7 : Kd.R (Kd.int .i64) 2 W w0.heap.size (fun k => w.heap.size ≤ k) (.slice A7 xs7.length c7) xs7
 cu : CurQ w0 b g w W
theorem Blk.drew_ {w W : World} {gp : Nat} {cs : Array Value} (h : Blk w W gp cs) : Blk w W.drew gp cs := h
theorem R_apart_ {w0 w W W' : World} {b : List Int} {g : Nat} {v6 v7 : Value} {xs ys : List Int} (h : Kd.R (Kd.int .i64) 2 W w0.heap.size (fun k => w.heap.size ≤ k) v6 xs) (h1 : CurQ w0 b g w W) (h2 : CurQ w0 b g W W') (h7 : Kd.R (Kd.int .i64) 2 W' w0.heap.size (fun k => W.heap.size ≤ k) v7 ys) : Kd.R (Kd.int .i64) 2 W' w0.heap.size (fun k => w.heap.size ≤ k ∧ some k ≠ v7.ownBlock) v6 xs :=
 Li (R_curI (by decide) (Kd.R_bound h) h1 h2) (fun k hk=>⟨hk.1,fun e=>by have h3:=h7.1 k e.symm;have h4:=hk.2.2.1;omega⟩)
theorem cur_new {w : World} {A0 : Option Addr} {c0 : Nat} {l0 : List Int} (hr0 : Kd.C (Kd.int .u8) w A0 l0.length l0) (hc0 : l0.length ≤ c0) (hl : l0.length ≤ 4096) :
  Calls Try.prog 62 #[.slice A0 l0.length c0] w fun e w'=>∃ g:Nat,e=.returned (.pointer (some ⟨g,0,none⟩))∧CurQ w l0 g w' w':=by
 obtain⟨⟨r1,r2,r3⟩,⟨k,hk⟩,hc,hs⟩:=new_ev l0 hl
 simp only at hc hs
 subst hc
 refine(spec_l1New.calls k A0 c0 r1 r1 r2 r3 w w (Below.refl _ _) hr0 hc0 (hk k (Nat.le_refl _))).mono ?_
 rintro e w' ⟨g,rfl,hI,hB,hB2⟩
 exact⟨g,rfl,CurQ.refl hs hI hB⟩
theorem cur_lt {w0 w W : World} {b : List Int} {g : Nat} (h : CurQ w0 b g w W) : g < W.heap.size := by
 obtain⟨_,_,_,q,_,_⟩:=h
 exact q.lt
theorem Blk.curx {wb w0 w W W' : World} {b : List Int} {g gp : Nat} {cs : Array Value} (h : Blk wb W gp cs) (h1 : CurQ w0 b g w W) (h2 : CurQ w0 b g W W') : Blk wb W' gp cs := by
 obtain⟨hg,hb⟩:=h
 obtain⟨_,_,_,q,_,_⟩:=h1
 obtain⟨_,_,_,_,_,k⟩:=h2
 exact⟨hg,(k.2 gp (blk_lt hb) (fun e=>q.ne_blk hb (by decide) e.symm) (by simp)).trans hb⟩
theorem V_curx {w0 W W' : World} {b : List Int} {g base : Nat} {ok : Nat → Prop} {v : Value} {xs : List Int} (h : Kd.V (Kd.int .i64) 2 W base ok v xs) (h2 : CurQ w0 b g W W') (hok : ∀ k, ok k → k ≠ g) : Kd.V (Kd.int .i64) 2 W' base ok v xs := by
 obtain⟨_,_,_,_,_,k⟩:=h2
 exact Kd.V_keep h k hok
def Row2 (W : World) (lo hi : Nat) (v : Value) (xs : List Int) : Prop := Kd.V (Kd.int .i64) 2 W 0 (fun k => lo ≤ k ∧ k < hi) v xs
theorem Row2.of {W : World} {base lo : Nat} {v : Value} {xs : List Int} (h : Kd.V (Kd.int .i64) 2 W base (fun k => lo ≤ k) v xs) : Row2 W lo W.heap.size v xs := Kd.V_lower (Kd.V_map (Kd.V_bound h) (fun _ hf => hf)) (Nat.le_refl 0)
theorem Row2.below {W W' : World} {lo hi : Nat} {v : Value} {xs : List Int} (h : Row2 W lo hi v xs) (hb : Below W.heap.size W W') : Row2 W' lo hi v xs := Kd.V_below h hb
theorem Row2.alloc {W : World} {lo hi : Nat} {v : Value} {xs : List Int} (h : Row2 W lo hi v xs) (o : Obj) : Row2 (W.alloc o) lo hi v xs := Kd.V_alloc h o
theorem Row2.drewN {W : World} {lo hi : Nat} {v : Value} {xs : List Int} (h : Row2 W lo hi v xs) (n : Nat) : Row2 (W.drewN n) lo hi v xs := Kd.V_drewN h n
theorem Row2.drew {W : World} {lo hi : Nat} {v : Value} {xs : List Int} (h : Row2 W lo hi v xs) : Row2 W.drew lo hi v xs := Lh h
theorem Row2.cur {w0 W W' : World} {b : List Int} {g lo hi : Nat} {v : Value} {xs : List Int} (h : Row2 W lo hi v xs) (h2 : CurQ w0 b g W W') (hg : g < lo) : Row2 W' lo hi v xs := V_curx h h2 (fun k hk => by omega)
theorem Row2.set3 {W : World} {lo hi gp : Nat} {v : Value} {xs : List Int} (h : Row2 W lo hi v xs) (hg : gp < lo ∨ hi ≤ gp) (x y z : Value) : Row2 (((W.setCell ⟨gp, 0, none⟩ x).setCell ⟨gp, 1, none⟩ y).setCell ⟨gp, 2, none⟩ z) lo hi v xs :=
 have hok:∀ k,(lo≤k∧k < hi)→k≠gp:=fun k hk=>by omega
 Kd.V_far (p:=⟨gp,2,none⟩) (Kd.V_far (p:=⟨gp,1,none⟩) (Kd.V_far (p:=⟨gp,0,none⟩) h hok x) hok y) hok z
theorem below_set3 {w W : World} {gp : Nat} (h : Below w.heap.size w W) (hg : w.heap.size ≤ gp) (x y z : Value) : Below w.heap.size w (((W.setCell ⟨gp, 0, none⟩ x).setCell ⟨gp, 1, none⟩ y).setCell ⟨gp, 2, none⟩ z) := below_set (below_set (below_set h hg) hg) hg

set_option maxHeartbeats 4000000 in
set_option maxRecDepth 100000 in
theorem spec_l14DrawPicture.calls {b : List Int} {g : Nat} {w0 wc w : World} (h : CurQ w0 b g wc w) (a c : Int) (n : Nat) (hn : a * c = (n : Int)) (hn2 : n ≤ 1000) :
  Calls Try.prog 92 #[.pointer (some ⟨g,0,none⟩),.int .i64 a,.int .i64 c] w fun e w'=>∃ (v:Value) (xs:List Int),e=.returned (.agg #[.int .i64 a,.int .i64 c,v])∧Kd.R (Kd.int .i64) 2 w' w0.heap.size (fun k=>w.heap.size≤k) v xs∧xs.length=n∧CurQ w0 b g w w':=by
 have HC:=La h.from_
 have HW:=La (cur_blw h).size
 clear h
 have hac:wrap64 (a*c)=(n:Int):=by rw [hn];unfold wrap64;omega
 go_enter Try.func92,Try.ntmps92
 go_wp2_with (first|((with_reducible refine gate_dst (N:=6) rfl ?_);refine box_event ?hg (N:=6) ?hd (cs:=#[.int .i64 0,.int .i64 0,.slice none 0 0]) (t:=27) ?hr ?_;(case hd=>rfl);(case hg=>rfl);(case hr=>first|(go_simp;done)|(go_simp;rfl));intro g6 hg_ wb_ hbox_ hb_;have nz_:=La (show Blk w wb_ g6 #[.int .i64 0,.int .i64 0,.slice none 0 0] from⟨by rw [hg_];exact cur_size (by repeat(first|(with_reducible first|exact HC.out|apply CurQ.alloc|apply CurQ.drewN)|exact HC.out)),hbox_⟩);have HZ:=nz_;clear nz_;have nc_:=La (CurQ.below (by repeat(first|(with_reducible first|exact HC.out|apply CurQ.alloc|apply CurQ.drewN)|exact HC.out)) hb_);clear HC;have HC:=nc_;clear nc_ hbox_ hb_ hg_)|((with_reducible refine gate_dst (N:=7) rfl ?_);refine box_event ?hg (N:=7) ?hd (cs:=#[.int .i64 0,.int .i64 0,.slice none 0 0]) (t:=27) ?hr ?_;(case hd=>rfl);(case hg=>rfl);(case hr=>first|(go_simp;done)|(go_simp;rfl));intro g7 hg_ wb_ hbox_ hb_;have nz_:=La (show Blk w wb_ g7 #[.int .i64 0,.int .i64 0,.slice none 0 0] from⟨by rw [hg_];exact cur_size (by repeat(first|(with_reducible first|exact HC.out|apply CurQ.alloc|apply CurQ.drewN)|exact HC.out)),hbox_⟩);have HN:=La (show g6≠g7 from by rw [hg_];exact Nat.ne_of_lt (blk_lt HZ.out.2));have nb_:=La (Blk.below (by repeat(first|(with_reducible first|exact HZ.out|apply Blk.alloc|apply Blk.drewN)|exact HZ.out)) hb_);clear HZ;have HZ:=nb_;clear nb_;have HP0:=nz_;clear nz_;obtain⟨wv_,hwv_⟩:∃ wv_,wv_=wb_:=⟨_,rfl⟩;subst hwv_;have hf0_:=Lb HP0.out.2 0;have hz0_:wv_.cell? ⟨g7,0,none⟩=some (.int .i64 0):=(Lc HP0.out.2 0).trans rfl;have hf1_:=Lb HP0.out.2 1;have hz1_:wv_.cell? ⟨g7,1,none⟩=some (.int .i64 0):=(Lc HP0.out.2 1).trans rfl;have hf2_:=Lb HP0.out.2 2;have hz2_:wv_.cell? ⟨g7,2,none⟩=some (.slice none 0 0):=(Lc HP0.out.2 2).trans rfl;have nc_:=La (CurQ.below (by repeat(first|(with_reducible first|exact HC.out|apply CurQ.alloc|apply CurQ.drewN)|exact HC.out)) hb_);clear HC;have HC:=nc_;clear nc_ hbox_ hb_ hg_)|((with_reducible refine gate_store (t:=27) (p:=7) rfl ?_);refine store_event (t:=27) (p:=7) (v:=?vo1x_) (w1:=((wv_.setCell ⟨g7,0,none⟩ (.int .i64 a)).setCell ⟨g7,1,none⟩ (.int .i64 c)).setCell ⟨g7,2,none⟩ (.slice none 0 0)) ?hg ?ho ?hn ?hr ?_;(case ho=>rfl);(case hg=>rfl);(case hn=>rfl);(case hr=>first|(go_simp;done)|(go_simp;rfl));intro ws_ hw_;subst hw_;have HP:=La (show PV w0 w _ g7 a c [] from⟨_,HP0.out.set3 (.int .i64 a) (.int .i64 c) (.slice none 0 0),Kd.R_nil _ _ _ _ _⟩);have nb_:=La (HZ.out.far3 HN.out (.int .i64 a) (.int .i64 c) (.slice none 0 0));have nc_:=La (HC.out.set3 HP0.out HW.out (.int .i64 a) (.int .i64 c) (.slice none 0 0));clear HC HZ HP0 hz0_ hz1_ hz2_ hf0_ hf1_ hf2_;have HC:=nc_;have HZ:=nb_;clear nb_ nc_;revert HC HZ HP;generalize ((wv_.setCell ⟨g7,0,none⟩ (.int .i64 a)).setCell ⟨g7,1,none⟩ (.int .i64 c)).setCell ⟨g7,2,none⟩ (.slice none 0 0)=ww_;intro HP HC HZ)|(go_at_call 65;(with_reducible refine(cur_below (w0:=w0) (w:=w) (b:=b) 256 ?c1).mono ?_);(case c1=>exact(by repeat(first|(with_reducible first|exact HC.out|apply CurQ.alloc|apply CurQ.drewN)|exact HC.out)));rintro e wc_ ⟨r_,rfl,⟨_,_⟩,hc_⟩;have nb0_:=La (Blk.cur (by repeat(first|(with_reducible first|exact HZ.out|apply Blk.alloc|apply Blk.drewN)|exact HZ.out)) (by repeat(first|(with_reducible first|exact HC.out|apply CurQ.alloc|apply CurQ.drewN)|exact HC.out)) hc_);have np0_:=La (PV.cur (by repeat(first|(with_reducible first|exact HP.out|apply PV.alloc|apply PV.drewN)|exact HP.out)) (by repeat(first|(with_reducible first|exact HC.out|apply CurQ.alloc|apply CurQ.drewN)|exact HC.out)) hc_);have nc_:=La (CurQ.trans (by repeat(first|(with_reducible first|exact HC.out|apply CurQ.alloc|apply CurQ.drewN)|exact HC.out)) hc_);clear HC hc_;have HC:=nc_;clear nc_;clear HZ;have HZ:=nb0_;clear nb0_;clear HP;have HP:=np0_;clear np0_))
 go_loopg [8,9] n (fun gg v8 v9 w'=>∃ (i:Nat) (x8:Int) (xs:List Int),Aside0 (i≤n∧n - i≤gg)∧v8=.int .i64 x8∧v9=.int .i64 (i:Int)∧Aside0 (xs.length=i)∧Aside0 (PV w0 w w' g7 a c xs)∧Aside0 (Blk w w' g6 #[.int .i64 0,.int .i64 0,.slice none 0 0])∧Aside0 (CurQ w0 b g w w'))
 case atStart=>exact⟨0,_,[],⟨Nat.zero_le _,Nat.le_refl _⟩,rfl,rfl,⟨rfl⟩,HP,HZ,HC⟩
 case round=>
  clear HP HZ HC
  obtain⟨i,x8,xs,HK,rfl,rfl,HXL,HP,HZ,HC⟩:=hrel
  by_cases hlt:i < n
  ·have hltb:decide ((i:Int) < (n:Int))=true:=decide_eq_true (by omega)
   have hwi:=w64s (n:=i) (by omega)
   go_wp2_with (first|(go_at_call 65;(with_reducible refine(cur_below (w0:=w0) (w:=w) (b:=b) 6 ?c1).mono ?_);(case c1=>exact(by repeat(first|(with_reducible first|exact HC.out|apply CurQ.alloc|apply CurQ.drewN)|exact HC.out)));rintro e wc_ ⟨r6_,rfl,⟨_,_⟩,hc_⟩;have nb0_:=La (Blk.cur (by repeat(first|(with_reducible first|exact HZ.out|apply Blk.alloc|apply Blk.drewN)|exact HZ.out)) (by repeat(first|(with_reducible first|exact HC.out|apply CurQ.alloc|apply CurQ.drewN)|exact HC.out)) hc_);have np0_:=La (PV.cur (by repeat(first|(with_reducible first|exact HP.out|apply PV.alloc|apply PV.drewN)|exact HP.out)) (by repeat(first|(with_reducible first|exact HC.out|apply CurQ.alloc|apply CurQ.drewN)|exact HC.out)) hc_);have nc_:=La (CurQ.trans (by repeat(first|(with_reducible first|exact HC.out|apply CurQ.alloc|apply CurQ.drewN)|exact HC.out)) hc_);clear HC hc_;have HC:=nc_;clear nc_;clear HZ;have HZ:=nb0_;clear nb0_;clear HP;have HP:=np0_;clear np0_;obtain⟨A_,cc_,hbk_,hrk_,⟨hz0_,hz1_,hz2_⟩,hf0_,hf1_,hf2_⟩:=PV.open_ HP.out;have HBK:=La hbk_;have HRK:=La hrk_;clear hbk_ hrk_)|(go_at_call 65;(with_reducible refine(cur_below (w0:=w0) (w:=w) (b:=b) 256 ?c1).mono ?_);(case c1=>exact(by repeat(first|(with_reducible first|exact HC.out|apply CurQ.alloc|apply CurQ.drewN)|exact HC.out)));rintro e wc_ ⟨r_,rfl,⟨_,_⟩,hc_⟩;have nb0_:=La (Blk.cur (by repeat(first|(with_reducible first|exact HZ.out|apply Blk.alloc|apply Blk.drewN)|exact HZ.out)) (by repeat(first|(with_reducible first|exact HC.out|apply CurQ.alloc|apply CurQ.drewN)|exact HC.out)) hc_);have np0_:=La (PV.cur (by repeat(first|(with_reducible first|exact HP.out|apply PV.alloc|apply PV.drewN)|exact HP.out)) (by repeat(first|(with_reducible first|exact HC.out|apply CurQ.alloc|apply CurQ.drewN)|exact HC.out)) hc_);have nc_:=La (CurQ.trans (by repeat(first|(with_reducible first|exact HC.out|apply CurQ.alloc|apply CurQ.drewN)|exact HC.out)) hc_);clear HC hc_;have HC:=nc_;clear nc_;clear HZ;have HZ:=nb0_;clear nb0_;clear HP;have HP:=np0_;clear np0_;obtain⟨A_,cc_,hbk_,hrk_,⟨hz0_,hz1_,hz2_⟩,hf0_,hf1_,hf2_⟩:=PV.open_ HP.out;have HBK:=La hbk_;have HRK:=La hrk_;clear hbk_ hrk_)|(go_at_call 59;(with_reducible refine(spec_l1Min.calls _ _ _ _ (min_eq_i _ _)).mono ?_);rintro e wk_ ⟨rfl,⟨nd_,rfl⟩⟩)|((with_reducible refine gate_builtin (b:=.append) (xs:=#[.tmp 34,.tmp 36]) rfl ?_);at_builtin;refine R_appendi (w0:=w0) w0.heap.size rfl (.tmp 34) (.tmp 36) 22 2 rfl Try.underlying22 finfoI (.slice A_ xs.length cc_) xs (fun k_=>w.heap.size≤k_) rfl rfl ?aF ?aO ?aB ?aS ?aL ?_;(case aF=>exact(fun _ hk_=>Nat.le_trans (cur_size (by repeat(first|(with_reducible first|exact HC.out|apply CurQ.alloc|apply CurQ.drewN)|exact HC.out))) hk_));(case aO=>exact(by(with_reducible repeat(first|apply Le|apply Lf|apply Ld));exact HRK.out));(case aB=>exact(cur_blw (by repeat(first|(with_reducible first|exact HC.out|apply CurQ.alloc|apply CurQ.drewN)|exact HC.out))));(case aS=>exact(Below.size (cur_blw (by repeat(first|(with_reducible first|exact HC.out|apply CurQ.alloc|apply CurQ.drewN)|exact HC.out)))));(case aL=>(have:=HXL.out;omega));intro va_ wa_ ys_ hyl_ hoa_ hba_ hg_;have n0_:=La (cur_append (e:=2) (d:=Kd.int .i64) (by decide) (by repeat(first|(with_reducible first|exact HC.out|apply CurQ.alloc|apply CurQ.drewN)|exact HC.out)) (by(with_reducible repeat(first|apply Le|apply Lf|apply Ld));exact HRK.out) hg_ hba_);have ng0_:=La (Blk.grown (by repeat(first|(with_reducible first|exact HZ.out|apply Blk.alloc|apply Blk.drewN)|exact HZ.out)) (by(with_reducible repeat(first|apply Le|apply Lf|apply Ld));exact HRK.out) hg_);have ng1_:=La (Blk.grown (by repeat(first|(with_reducible first|exact HBK.out|apply Blk.alloc|apply Blk.drewN)|exact HBK.out)) (by(with_reducible repeat(first|apply Le|apply Lf|apply Ld));exact HRK.out) hg_);clear HC;have HC:=n0_;clear n0_;clear HZ;have HZ:=ng0_;clear ng0_;clear HBK;have HBK:=ng1_;clear ng1_;obtain⟨A2_,c2_,e2_⟩:=Kd.R_slice hoa_;subst e2_;have HRN:=La hoa_;have HYL:=La hyl_;clear hoa_ hba_ hg_ hyl_;have hf2n_:=Lb HBK.out.2 2;have hz2n_:wa_.cell? ⟨g7,2,none⟩=some (.slice A_ xs.length cc_):=(Lc HBK.out.2 2).trans rfl))
   all_goals
    go_roundg (n - (i+1))
    case measure=>have:=HK.out;omega
    case rel=>exact⟨i+1,_,ys_,⟨by omega,by omega⟩,rfl,by first|rfl|(rw [hwi])|simp,⟨by rw [HYL.out,HXL.out]⟩,⟨PV.put (by repeat(first|(with_reducible first|exact HBK.out|apply Blk.alloc|apply Blk.drewN)|exact HBK.out)) HRN.out⟩,⟨Blk.far (by repeat(first|(with_reducible first|exact HZ.out|apply Blk.alloc|apply Blk.drewN)|exact HZ.out)) (p:=⟨g7,2,none⟩) HN.out _⟩,⟨CurQ.setB (by repeat(first|(with_reducible first|exact HC.out|apply CurQ.alloc|apply CurQ.drewN)|exact HC.out)) (by repeat(first|(with_reducible first|exact HBK.out|apply Blk.alloc|apply Blk.drewN)|exact HBK.out)) 2 _ HW.out⟩⟩
  ·have hltb:decide ((i:Int) < (n:Int))=false:=decide_eq_false (by omega)
   have hin:i=n:=by have:=HK.out;omega
   subst hin
   obtain⟨A_,cc_,hbk_,hrk_,⟨hz0_,hz1_,hz2_⟩,hf0_,hf1_,hf2_⟩:=PV.open_ HP.out
   have HBK:=La hbk_
   have HRK:=La hrk_
   clear hbk_ hrk_
   have hf0b_:=Lb HZ.out.2 0
   have hz0b_:wr.cell? ⟨g6,0,none⟩=some (.int .i64 0):=(Lc HZ.out.2 0).trans rfl
   have hf1b_:=Lb HZ.out.2 1
   have hz1b_:wr.cell? ⟨g6,1,none⟩=some (.int .i64 0):=(Lc HZ.out.2 1).trans rfl
   have hf2b_:=Lb HZ.out.2 2
   have hz2b_:wr.cell? ⟨g6,2,none⟩=some (.slice none 0 0):=(Lc HZ.out.2 2).trans rfl
   go_wp2
   ((try simp only [Exit.inBlock,Exit.then]);refine bodyPost_ret (results_cell_row rfl _ _ g6 27 #[.int .i64 a,.int .i64 c,.slice A_ xs.length cc_] (0,0) _ rfl (Blk.set3 HZ.out _ _ _).2 Try.underlying27 rfl (by kernel_rfl)) rfl ?_)
   exact⟨_,xs,rfl,R_set3 HRK.out HZ.out _ _ _,HXL.out,HC.out.set3 HZ.out HW.out _ _ _⟩

def spec_l14DrawTwo.T19 : Bool × List (List Nat × List Nat) := (true, [([], []), ([0], [0]), ([], []), ([], []), ([3], [3]), ([2, 4], [2, 4]), ([5], [5]), ([1, 0, 1, 2, 3, 4, 5, 6], [1]), ([7, 6, 4, 0, 1, 2, 3, 4, 5, 6], [6, 7])])
def spec_l14DrawTwo.B19 : List Nat := [0, 1, 0, 0, 8, 28, 60, 127, 255]
theorem spec_l14DrawTwo.tab19 : rtab .any (opsOf Try.f72 19) = spec_l14DrawTwo.T19 := by kernel_rfl
theorem spec_l14DrawTwo.bits19 : waitsOk spec_l14DrawTwo.T19.2 spec_l14DrawTwo.B19 = true := by kernel_rfl
set_option maxHeartbeats 4000000 in
set_option maxRecDepth 100000 in
theorem spec_l14DrawTwo.calls {b : List Int} {g : Nat} {w0 wc w : World} (h : CurQ w0 b g wc w) :
  Calls Try.prog 72 #[.pointer (some ⟨g,0,none⟩)] w fun e w'=>∃ (a0 c0 a1 c1:Int) (v0 v1:Value) (xs ys:List Int),e=.returned (.tuple #[.agg #[.int .i64 a0,.int .i64 c0,v0],.agg #[.int .i64 a1,.int .i64 c1,v1]])∧Kd.V (Kd.int .i64) 2 w' w0.heap.size (fun k=>w.heap.size≤k) v0 xs∧Kd.V (Kd.int .i64) 2 w' w0.heap.size (fun k=>w.heap.size≤k) v1 ys∧xs.length≤1000∧ys.length≤1000∧CurQ w0 b g w w':=by
 have HC:=La h.from_
 have HW:=La (cur_blw h).size
 clear h
 obtain⟨i0_,hi0_,_,hsz_,_⟩:=info_parts finfoI
 have HI0:=La hi0_
 have HI1:=La hsz_
 clear hi0_ hsz_
 go_enter Try.func72,Try.ntmps72
 go_upto_if 29 with (first|((with_reducible refine gate_dst (N:=2) rfl ?_);refine box_event ?hg (N:=2) ?hd (cs:=#[.int .i64 0,.int .i64 0,.slice none 0 0]) (t:=27) ?hr ?_;(case hd=>rfl);(case hg=>rfl);(case hr=>first|(go_simp;done)|(go_simp;rfl));intro g2 hg_ wb_ hbox_ hb_;have nz_:=La (show Blk w wb_ g2 #[.int .i64 0,.int .i64 0,.slice none 0 0] from⟨by rw [hg_];exact cur_size (by repeat(first|(with_reducible first|exact HC.out|apply CurQ.alloc|apply CurQ.drewN)|exact HC.out)),hbox_⟩);have mc_:=La (CurQ.below (by repeat(first|(with_reducible first|exact HC.out|apply CurQ.alloc|apply CurQ.drewN)|exact HC.out)) hb_);clear HC;have HC:=mc_;clear mc_;clear hb_;have HZ2:=nz_;clear nz_ hbox_ hg_)|((with_reducible refine gate_dst (N:=3) rfl ?_);refine box_event ?hg (N:=3) ?hd (cs:=#[.int .i64 0,.int .i64 0,.slice none 0 0]) (t:=27) ?hr ?_;(case hd=>rfl);(case hg=>rfl);(case hr=>first|(go_simp;done)|(go_simp;rfl));intro g3 hg_ wb_ hbox_ hb_;have nz_:=La (show Blk w wb_ g3 #[.int .i64 0,.int .i64 0,.slice none 0 0] from⟨by rw [hg_];exact cur_size (by repeat(first|(with_reducible first|exact HC.out|apply CurQ.alloc|apply CurQ.drewN)|exact HC.out)),hbox_⟩);have HNg2_g3:=La (show g2≠g3 from by rw [hg_];exact Nat.ne_of_lt (blk_lt (show Blk w _ g2 _ from(by repeat(first|(with_reducible first|exact HZ2.out|apply Blk.alloc|apply Blk.drewN)|exact HZ2.out))).2));have mb0_:=La (Blk.below (by repeat(first|(with_reducible first|exact HZ2.out|apply Blk.alloc|apply Blk.drewN)|exact HZ2.out)) hb_);have mc_:=La (CurQ.below (by repeat(first|(with_reducible first|exact HC.out|apply CurQ.alloc|apply CurQ.drewN)|exact HC.out)) hb_);clear HC;have HC:=mc_;clear mc_;clear HZ2;have HZ2:=mb0_;clear mb0_;clear hb_;have HZ3:=nz_;clear nz_ hbox_ hg_)|((fail_if_success (have:=HS1));go_at_call 65;(with_reducible refine(cur_below (w0:=w0) (w:=w) (b:=b) 3 ?c1).mono ?_);(case c1=>exact(by repeat(first|(with_reducible first|exact HC.out|apply CurQ.alloc|apply CurQ.drewN)|exact HC.out)));rintro e wc_ ⟨r1_,rfl,⟨ha0_,ha1_⟩,hc_⟩;have mb0_:=La (Blk.cur (by repeat(first|(with_reducible first|exact HZ2.out|apply Blk.alloc|apply Blk.drewN)|exact HZ2.out)) (by repeat(first|(with_reducible first|exact HC.out|apply CurQ.alloc|apply CurQ.drewN)|exact HC.out)) hc_);have mb1_:=La (Blk.cur (by repeat(first|(with_reducible first|exact HZ3.out|apply Blk.alloc|apply Blk.drewN)|exact HZ3.out)) (by repeat(first|(with_reducible first|exact HC.out|apply CurQ.alloc|apply CurQ.drewN)|exact HC.out)) hc_);have mc_:=La (CurQ.trans (by repeat(first|(with_reducible first|exact HC.out|apply CurQ.alloc|apply CurQ.drewN)|exact HC.out)) hc_);clear HC;have HC:=mc_;clear mc_;clear HZ2;have HZ2:=mb0_;clear mb0_;clear HZ3;have HZ3:=mb1_;clear mb1_;clear hc_;obtain⟨hx1_,a,hx2_,ha_⟩:=side_of r1_ ha0_ (ha1_ (by decide));have HS1:=La ha_;clear ha_ ha0_ ha1_)|(go_at_call 65;(with_reducible refine(cur_below (w0:=w0) (w:=w) (b:=b) 3 ?c1).mono ?_);(case c1=>exact(by repeat(first|(with_reducible first|exact HC.out|apply CurQ.alloc|apply CurQ.drewN)|exact HC.out)));rintro e wc_ ⟨r2_,rfl,⟨hb0_,hb1_⟩,hc_⟩;have mb0_:=La (Blk.cur (by repeat(first|(with_reducible first|exact HZ2.out|apply Blk.alloc|apply Blk.drewN)|exact HZ2.out)) (by repeat(first|(with_reducible first|exact HC.out|apply CurQ.alloc|apply CurQ.drewN)|exact HC.out)) hc_);have mb1_:=La (Blk.cur (by repeat(first|(with_reducible first|exact HZ3.out|apply Blk.alloc|apply Blk.drewN)|exact HZ3.out)) (by repeat(first|(with_reducible first|exact HC.out|apply CurQ.alloc|apply CurQ.drewN)|exact HC.out)) hc_);have mc_:=La (CurQ.trans (by repeat(first|(with_reducible first|exact HC.out|apply CurQ.alloc|apply CurQ.drewN)|exact HC.out)) hc_);clear HC;have HC:=mc_;clear mc_;clear HZ2;have HZ2:=mb0_;clear mb0_;clear HZ3;have HZ3:=mb1_;clear mb1_;clear hc_;obtain⟨hy1_,c,hy2_,hc2_⟩:=side_of r2_ hb0_ (hb1_ (by decide));have HS2:=La hc2_;clear hc2_ hb0_ hb1_;obtain⟨n,hn_,hn1_,hn2x_⟩:=sides HS1.out HS2.out;have hn2_:n≤1000:=(by omega))|((fail_if_success (have:=HR6));go_at_call 92;(with_reducible refine(spec_l14DrawPicture.calls (w0:=w0) (wc:=w) (b:=b) ?c1 a c n hn_ hn2_).mono ?_);(case c1=>exact(by repeat(first|(with_reducible first|exact HC.out|apply CurQ.alloc|apply CurQ.drewN)|exact HC.out)));rintro e wc_ ⟨v6,xs6,rfl,ho_,hl6_,hc_⟩;have HR6:=La (show Kd.R (Kd.int .i64) 2 wc_ w0.heap.size (fun k=>w.heap.size≤k) v6 xs6 from(Li ho_ (fun _ hk_=>Nat.le_trans (cur_size (by repeat(first|(with_reducible first|exact HC.out|apply CurQ.alloc|apply CurQ.drewN)|exact HC.out))) hk_)));have HL6:=La hl6_;clear ho_ hl6_;have mb0_:=La (Blk.cur (by repeat(first|(with_reducible first|exact HZ2.out|apply Blk.alloc|apply Blk.drewN)|exact HZ2.out)) (by repeat(first|(with_reducible first|exact HC.out|apply CurQ.alloc|apply CurQ.drewN)|exact HC.out)) hc_);have mb1_:=La (Blk.cur (by repeat(first|(with_reducible first|exact HZ3.out|apply Blk.alloc|apply Blk.drewN)|exact HZ3.out)) (by repeat(first|(with_reducible first|exact HC.out|apply CurQ.alloc|apply CurQ.drewN)|exact HC.out)) hc_);have mc_:=La (CurQ.trans (by repeat(first|(with_reducible first|exact HC.out|apply CurQ.alloc|apply CurQ.drewN)|exact HC.out)) hc_);clear HC;have HC:=mc_;clear mc_;clear HZ2;have HZ2:=mb0_;clear mb0_;clear HZ3;have HZ3:=mb1_;clear mb1_;clear hc_;obtain⟨A6_,c6_,e6_⟩:=Kd.R_slice HR6.out;subst e6_)|((with_reducible refine gate_dst (N:=6) rfl ?_);refine box_event ?hg (N:=6) ?hd (cs:=#[.int .i64 0,.int .i64 0,.slice none 0 0]) (t:=27) ?hr ?_;(case hd=>rfl);(case hg=>rfl);(case hr=>first|(go_simp;done)|(go_simp;rfl));intro g6 hg_ wb_ hbox_ hb_;have nz_:=La (show Blk w wb_ g6 #[.int .i64 0,.int .i64 0,.slice none 0 0] from⟨by rw [hg_];exact cur_size (by repeat(first|(with_reducible first|exact HC.out|apply CurQ.alloc|apply CurQ.drewN)|exact HC.out)),hbox_⟩);have HNg2_g6:=La (show g2≠g6 from by rw [hg_];exact Nat.ne_of_lt (blk_lt (show Blk w _ g2 _ from(by repeat(first|(with_reducible first|exact HZ2.out|apply Blk.alloc|apply Blk.drewN)|exact HZ2.out))).2));have HNg3_g6:=La (show g3≠g6 from by rw [hg_];exact Nat.ne_of_lt (blk_lt (show Blk w _ g3 _ from(by repeat(first|(with_reducible first|exact HZ3.out|apply Blk.alloc|apply Blk.drewN)|exact HZ3.out))).2));have mb0_:=La (Blk.below (by repeat(first|(with_reducible first|exact HZ2.out|apply Blk.alloc|apply Blk.drewN)|exact HZ2.out)) hb_);have mb1_:=La (Blk.below (by repeat(first|(with_reducible first|exact HZ3.out|apply Blk.alloc|apply Blk.drewN)|exact HZ3.out)) hb_);have mr0_:=La (Kd.R_below (by(with_reducible repeat(first|apply Le|apply Lf|apply Ld));exact HR6.out) hb_);have mc_:=La (CurQ.below (by repeat(first|(with_reducible first|exact HC.out|apply CurQ.alloc|apply CurQ.drewN)|exact HC.out)) hb_);clear HC;have HC:=mc_;clear mc_;clear HZ2;have HZ2:=mb0_;clear mb0_;clear HZ3;have HZ3:=mb1_;clear mb1_;clear HR6;have HR6:=mr0_;clear mr0_;clear hb_;have HX:=nz_;clear nz_ hbox_ hg_;obtain⟨wx6_,hwv_⟩:∃ wv_,wv_=wb_:=⟨_,rfl⟩;subst hwv_;have hf0_:=Lb HX.out.2 0;have hz0_:wx6_.cell? ⟨g6,0,none⟩=some (.int .i64 0):=(Lc HX.out.2 0).trans rfl;have hf1_:=Lb HX.out.2 1;have hz1_:wx6_.cell? ⟨g6,1,none⟩=some (.int .i64 0):=(Lc HX.out.2 1).trans rfl;have hf2_:=Lb HX.out.2 2;have hz2_:wx6_.cell? ⟨g6,2,none⟩=some (.slice none 0 0):=(Lc HX.out.2 2).trans rfl)|((with_reducible refine gate_store (t:=27) (p:=6) rfl ?_);refine store_event (t:=27) (p:=6) (v:=?vo12x_) (w1:=((wx6_.setCell ⟨g6,0,none⟩ (.int .i64 a)).setCell ⟨g6,1,none⟩ (.int .i64 c)).setCell ⟨g6,2,none⟩ (.slice A6_ xs6.length c6_)) ?hg ?ho ?hn ?hr ?_;(case ho=>rfl);(case hg=>rfl);(case hn=>rfl);(case hr=>first|(go_simp;done)|(go_simp;rfl));intro ws_ hw_;subst hw_;have HB6:=La (show Blk w _ g6 #[.int .i64 a,.int .i64 c,.slice A6_ xs6.length c6_] from HX.out.set3 (.int .i64 a) (.int .i64 c) (.slice A6_ xs6.length c6_));have mb0_:=La (Blk.far3 HZ2.out HNg2_g6.out (.int .i64 a) (.int .i64 c) (.slice A6_ xs6.length c6_));have mb1_:=La (Blk.far3 HZ3.out HNg3_g6.out (.int .i64 a) (.int .i64 c) (.slice A6_ xs6.length c6_));have mr0_:=La (R_set3 HR6.out HX.out (.int .i64 a) (.int .i64 c) (.slice A6_ xs6.length c6_));have mc_:=La (CurQ.set3 HC.out HX.out HW.out (.int .i64 a) (.int .i64 c) (.slice A6_ xs6.length c6_));clear HZ2 HZ3 HR6 HC HX hz0_ hz1_ hz2_ hf0_ hf1_ hf2_;revert HB6 mb0_ mb1_ mr0_ mc_;generalize (((wx6_.setCell ⟨g6,0,none⟩ (.int .i64 a)).setCell ⟨g6,1,none⟩ (.int .i64 c)).setCell ⟨g6,2,none⟩ (.slice A6_ xs6.length c6_))=ww_;intro HB6 HZ2 HZ3 HR6 HC)|(go_at_call 92;(with_reducible refine(spec_l14DrawPicture.calls (w0:=w0) (wc:=w) (b:=b) ?c1 a c n hn_ hn2_).mono ?_);(case c1=>exact(by repeat(first|(with_reducible first|exact HC.out|apply CurQ.alloc|apply CurQ.drewN)|exact HC.out)));rintro e wc_ ⟨v7,xs7,rfl,ho_,hl7_,hc_⟩;have HR7:=La (show Kd.R (Kd.int .i64) 2 wc_ w0.heap.size (fun k=>w.heap.size≤k) v7 xs7 from(Li ho_ (fun _ hk_=>Nat.le_trans (cur_size (by repeat(first|(with_reducible first|exact HC.out|apply CurQ.alloc|apply CurQ.drewN)|exact HC.out))) hk_)));have HL7:=La hl7_;have HRA:=La (R_apart_ (by(with_reducible repeat(first|apply Le|apply Lf|apply Ld));exact HR6.out) (by repeat(first|(with_reducible first|exact HC.out|apply CurQ.alloc|apply CurQ.drewN)|exact HC.out)) hc_ ho_);clear ho_ hl7_ HR6;have mb0_:=La (Blk.cur (by repeat(first|(with_reducible first|exact HZ2.out|apply Blk.alloc|apply Blk.drewN)|exact HZ2.out)) (by repeat(first|(with_reducible first|exact HC.out|apply CurQ.alloc|apply CurQ.drewN)|exact HC.out)) hc_);have mb1_:=La (Blk.cur (by repeat(first|(with_reducible first|exact HZ3.out|apply Blk.alloc|apply Blk.drewN)|exact HZ3.out)) (by repeat(first|(with_reducible first|exact HC.out|apply CurQ.alloc|apply CurQ.drewN)|exact HC.out)) hc_);have mb2_:=La (Blk.cur (by repeat(first|(with_reducible first|exact HB6.out|apply Blk.alloc|apply Blk.drewN)|exact HB6.out)) (by repeat(first|(with_reducible first|exact HC.out|apply CurQ.alloc|apply CurQ.drewN)|exact HC.out)) hc_);have mc_:=La (CurQ.trans (by repeat(first|(with_reducible first|exact HC.out|apply CurQ.alloc|apply CurQ.drewN)|exact HC.out)) hc_);clear HC;have HC:=mc_;clear mc_;clear HZ2;have HZ2:=mb0_;clear mb0_;clear HZ3;have HZ3:=mb1_;clear mb1_;clear HB6;have HB6:=mb2_;clear mb2_;clear hc_;have HR6:=HRA;clear HRA;obtain⟨A7_,c7_,e7_⟩:=Kd.R_slice HR7.out;subst e7_)|((with_reducible refine gate_dst (N:=7) rfl ?_);refine box_event ?hg (N:=7) ?hd (cs:=#[.int .i64 0,.int .i64 0,.slice none 0 0]) (t:=27) ?hr ?_;(case hd=>rfl);(case hg=>rfl);(case hr=>first|(go_simp;done)|(go_simp;rfl));intro g7 hg_ wb_ hbox_ hb_;have nz_:=La (show Blk w wb_ g7 #[.int .i64 0,.int .i64 0,.slice none 0 0] from⟨by rw [hg_];exact cur_size (by repeat(first|(with_reducible first|exact HC.out|apply CurQ.alloc|apply CurQ.drewN)|exact HC.out)),hbox_⟩);have HNg2_g7:=La (show g2≠g7 from by rw [hg_];exact Nat.ne_of_lt (blk_lt (show Blk w _ g2 _ from(by repeat(first|(with_reducible first|exact HZ2.out|apply Blk.alloc|apply Blk.drewN)|exact HZ2.out))).2));have HNg3_g7:=La (show g3≠g7 from by rw [hg_];exact Nat.ne_of_lt (blk_lt (show Blk w _ g3 _ from(by repeat(first|(with_reducible first|exact HZ3.out|apply Blk.alloc|apply Blk.drewN)|exact HZ3.out))).2));have HNg6_g7:=La (show g6≠g7 from by rw [hg_];exact Nat.ne_of_lt (blk_lt (show Blk w _ g6 _ from(by repeat(first|(with_reducible first|exact HB6.out|apply Blk.alloc|apply Blk.drewN)|exact HB6.out))).2));have mb0_:=La (Blk.below (by repeat(first|(with_reducible first|exact HZ2.out|apply Blk.alloc|apply Blk.drewN)|exact HZ2.out)) hb_);have mb1_:=La (Blk.below (by repeat(first|(with_reducible first|exact HZ3.out|apply Blk.alloc|apply Blk.drewN)|exact HZ3.out)) hb_);have mb2_:=La (Blk.below (by repeat(first|(with_reducible first|exact HB6.out|apply Blk.alloc|apply Blk.drewN)|exact HB6.out)) hb_);have mr0_:=La (Kd.R_below (by(with_reducible repeat(first|apply Le|apply Lf|apply Ld));exact HR6.out) hb_);have mr1_:=La (Kd.R_below (by(with_reducible repeat(first|apply Le|apply Lf|apply Ld));exact HR7.out) hb_);have mc_:=La (CurQ.below (by repeat(first|(with_reducible first|exact HC.out|apply CurQ.alloc|apply CurQ.drewN)|exact HC.out)) hb_);clear HC;have HC:=mc_;clear mc_;clear HZ2;have HZ2:=mb0_;clear mb0_;clear HZ3;have HZ3:=mb1_;clear mb1_;clear HB6;have HB6:=mb2_;clear mb2_;clear HR6;have HR6:=mr0_;clear mr0_;clear HR7;have HR7:=mr1_;clear mr1_;clear hb_;have HX:=nz_;clear nz_ hbox_ hg_;obtain⟨wx7_,hwv_⟩:∃ wv_,wv_=wb_:=⟨_,rfl⟩;subst hwv_;have hf0_:=Lb HX.out.2 0;have hz0_:wx7_.cell? ⟨g7,0,none⟩=some (.int .i64 0):=(Lc HX.out.2 0).trans rfl;have hf1_:=Lb HX.out.2 1;have hz1_:wx7_.cell? ⟨g7,1,none⟩=some (.int .i64 0):=(Lc HX.out.2 1).trans rfl;have hf2_:=Lb HX.out.2 2;have hz2_:wx7_.cell? ⟨g7,2,none⟩=some (.slice none 0 0):=(Lc HX.out.2 2).trans rfl)|((with_reducible refine gate_store (t:=27) (p:=7) rfl ?_);refine store_event (t:=27) (p:=7) (v:=?vo13x_) (w1:=((wx7_.setCell ⟨g7,0,none⟩ (.int .i64 a)).setCell ⟨g7,1,none⟩ (.int .i64 c)).setCell ⟨g7,2,none⟩ (.slice A7_ xs7.length c7_)) ?hg ?ho ?hn ?hr ?_;(case ho=>rfl);(case hg=>rfl);(case hn=>rfl);(case hr=>first|(go_simp;done)|(go_simp;rfl));intro ws_ hw_;subst hw_;have HB7:=La (show Blk w _ g7 #[.int .i64 a,.int .i64 c,.slice A7_ xs7.length c7_] from HX.out.set3 (.int .i64 a) (.int .i64 c) (.slice A7_ xs7.length c7_));have mb0_:=La (Blk.far3 HZ2.out HNg2_g7.out (.int .i64 a) (.int .i64 c) (.slice A7_ xs7.length c7_));have mb1_:=La (Blk.far3 HZ3.out HNg3_g7.out (.int .i64 a) (.int .i64 c) (.slice A7_ xs7.length c7_));have mb2_:=La (Blk.far3 HB6.out HNg6_g7.out (.int .i64 a) (.int .i64 c) (.slice A7_ xs7.length c7_));have mr0_:=La (R_set3 HR6.out HX.out (.int .i64 a) (.int .i64 c) (.slice A7_ xs7.length c7_));have mr1_:=La (R_set3 HR7.out HX.out (.int .i64 a) (.int .i64 c) (.slice A7_ xs7.length c7_));have mc_:=La (CurQ.set3 HC.out HX.out HW.out (.int .i64 a) (.int .i64 c) (.slice A7_ xs7.length c7_));clear HZ2 HZ3 HB6 HR6 HR7 HC HX hz0_ hz1_ hz2_ hf0_ hf1_ hf2_;revert HB7 mb0_ mb1_ mb2_ mr0_ mr1_ mc_;generalize (((wx7_.setCell ⟨g7,0,none⟩ (.int .i64 a)).setCell ⟨g7,1,none⟩ (.int .i64 c)).setCell ⟨g7,2,none⟩ (.slice A7_ xs7.length c7_))=ww_;intro HB7 HZ2 HZ3 HB6 HR6 HR7 HC)|(go_at_call 64;(with_reducible refine(cur_once (w0:=w0) (w:=w) (b:=b) 2 ?c1).mono ?_);(case c1=>exact(by repeat(first|(with_reducible first|exact HC.out|apply CurQ.alloc|apply CurQ.drewN)|exact HC.out)));rintro e wc_ ⟨q2_,rfl,hc_⟩;have mb0_:=La (Blk.cur (by repeat(first|(with_reducible first|exact HZ2.out|apply Blk.alloc|apply Blk.drewN)|exact HZ2.out)) (by repeat(first|(with_reducible first|exact HC.out|apply CurQ.alloc|apply CurQ.drewN)|exact HC.out)) hc_);have mb1_:=La (Blk.cur (by repeat(first|(with_reducible first|exact HZ3.out|apply Blk.alloc|apply Blk.drewN)|exact HZ3.out)) (by repeat(first|(with_reducible first|exact HC.out|apply CurQ.alloc|apply CurQ.drewN)|exact HC.out)) hc_);have mb2_:=La (Blk.cur (by repeat(first|(with_reducible first|exact HB6.out|apply Blk.alloc|apply Blk.drewN)|exact HB6.out)) (by repeat(first|(with_reducible first|exact HC.out|apply CurQ.alloc|apply CurQ.drewN)|exact HC.out)) hc_);have mb3_:=La (Blk.cur (by repeat(first|(with_reducible first|exact HB7.out|apply Blk.alloc|apply Blk.drewN)|exact HB7.out)) (by repeat(first|(with_reducible first|exact HC.out|apply CurQ.alloc|apply CurQ.drewN)|exact HC.out)) hc_);have mr0_:=La (R_curI (e:=2) (d:=Kd.int .i64) (by decide) (by(with_reducible repeat(first|apply Le|apply Lf|apply Ld));exact HR6.out) (by repeat(first|(with_reducible first|exact HC.out|apply CurQ.alloc|apply CurQ.drewN)|exact HC.out)) hc_);have mr1_:=La (R_curI (e:=2) (d:=Kd.int .i64) (by decide) (by(with_reducible repeat(first|apply Le|apply Lf|apply Ld));exact HR7.out) (by repeat(first|(with_reducible first|exact HC.out|apply CurQ.alloc|apply CurQ.drewN)|exact HC.out)) hc_);have mc_:=La (CurQ.trans (by repeat(first|(with_reducible first|exact HC.out|apply CurQ.alloc|apply CurQ.drewN)|exact HC.out)) hc_);clear HC;have HC:=mc_;clear mc_;clear HZ2;have HZ2:=mb0_;clear mb0_;clear HZ3;have HZ3:=mb1_;clear mb1_;clear HB6;have HB6:=mb2_;clear mb2_;clear HB7;have HB7:=mb3_;clear mb3_;clear HR6;have HR6:=mr0_;clear mr0_;clear HR7;have HR7:=mr1_;clear mr1_;clear hc_;have hf07_:=Lb HB7.out.2 0;have hz07_:wc_.cell? ⟨g7,0,none⟩=some (.int .i64 a):=(Lc HB7.out.2 0).trans rfl;have hf17_:=Lb HB7.out.2 1;have hz17_:wc_.cell? ⟨g7,1,none⟩=some (.int .i64 c):=(Lc HB7.out.2 1).trans rfl;have hf27_:=Lb HB7.out.2 2;have hz27_:wc_.cell? ⟨g7,2,none⟩=some (.slice A7_ xs7.length c7_):=(Lc HB7.out.2 2).trans rfl))
 go_cut [] (fun wc=>∃ (A7_:Option Addr) (c7_:Nat) (xs7:List Int),TwoQ w0 w wc b g g2 g3 g6 g7 n a c A6_ c6_ xs6 A7_ c7_ xs7)
 case first=>
  go_wp2_with (first|((with_reducible refine gate_store (t:=27) (p:=7) rfl ?_);refine store_event (t:=27) (p:=7) (v:=?vo11x_) (w1:=((wc_.setCell ⟨g7,0,none⟩ (.int .i64 a)).setCell ⟨g7,1,none⟩ (.int .i64 c)).setCell ⟨g7,2,none⟩ (.slice none 0 0)) ?hg ?ho ?hn ?hr ?_;(case ho=>rfl);(case hg=>rfl);(case hn=>rfl);(case hr=>first|(go_simp;done)|(go_simp;rfl));intro ws_ hw_;subst hw_;have HBN:=La (show Blk w _ g7 #[.int .i64 a,.int .i64 c,.slice none 0 0] from HB7.out.set3 (.int .i64 a) (.int .i64 c) (.slice none 0 0));have mb0_:=La (Blk.far3 HZ2.out HNg2_g7.out (.int .i64 a) (.int .i64 c) (.slice none 0 0));have mb1_:=La (Blk.far3 HZ3.out HNg3_g7.out (.int .i64 a) (.int .i64 c) (.slice none 0 0));have mb2_:=La (Blk.far3 HB6.out HNg6_g7.out (.int .i64 a) (.int .i64 c) (.slice none 0 0));have mr0_:=La (R_set3 HR6.out HB7.out (.int .i64 a) (.int .i64 c) (.slice none 0 0));have mc_:=La (CurQ.set3 HC.out HB7.out HW.out (.int .i64 a) (.int .i64 c) (.slice none 0 0));clear HZ2 HZ3 HB6 HR6 HC HB7 HR7 hz07_ hz17_ hz27_ hf07_ hf17_ hf27_;revert HBN mb0_ mb1_ mb2_ mr0_ mc_;generalize (((wc_.setCell ⟨g7,0,none⟩ (.int .i64 a)).setCell ⟨g7,1,none⟩ (.int .i64 c)).setCell ⟨g7,2,none⟩ (.slice none 0 0))=ww_;intro HBN HZ2 HZ3 HB6 HR6 HC;have HB7:=HBN;clear HBN)|((fail_if_success (have:=HDX));go_at_call 63;(with_reducible refine(cur_from (w0:=w0) (w:=w) (b:=b) (-2) 2 ?d1 ?d2 ?d3 ?c1).mono ?_);(case d1=>omega);(case d2=>omega);(case d3=>omega);(case c1=>exact(by repeat(first|(with_reducible first|exact HC.out|apply CurQ.alloc|apply CurQ.drewN)|exact HC.out)));rintro e wc_ ⟨dx,rfl,hdx_,hc_⟩;have mb0_:=La (Blk.cur (by repeat(first|(with_reducible first|exact HZ2.out|apply Blk.alloc|apply Blk.drewN)|exact HZ2.out)) (by repeat(first|(with_reducible first|exact HC.out|apply CurQ.alloc|apply CurQ.drewN)|exact HC.out)) hc_);have mb1_:=La (Blk.cur (by repeat(first|(with_reducible first|exact HZ3.out|apply Blk.alloc|apply Blk.drewN)|exact HZ3.out)) (by repeat(first|(with_reducible first|exact HC.out|apply CurQ.alloc|apply CurQ.drewN)|exact HC.out)) hc_);have mb2_:=La (Blk.cur (by repeat(first|(with_reducible first|exact HB6.out|apply Blk.alloc|apply Blk.drewN)|exact HB6.out)) (by repeat(first|(with_reducible first|exact HC.out|apply CurQ.alloc|apply CurQ.drewN)|exact HC.out)) hc_);have mb3_:=La (Blk.cur (by repeat(first|(with_reducible first|exact HB7.out|apply Blk.alloc|apply Blk.drewN)|exact HB7.out)) (by repeat(first|(with_reducible first|exact HC.out|apply CurQ.alloc|apply CurQ.drewN)|exact HC.out)) hc_);have mr0_:=La (R_curI (e:=2) (d:=Kd.int .i64) (by decide) (by(with_reducible repeat(first|apply Le|apply Lf|apply Ld));exact HR6.out) (by repeat(first|(with_reducible first|exact HC.out|apply CurQ.alloc|apply CurQ.drewN)|exact HC.out)) hc_);have mc_:=La (CurQ.trans (by repeat(first|(with_reducible first|exact HC.out|apply CurQ.alloc|apply CurQ.drewN)|exact HC.out)) hc_);clear HC;have HC:=mc_;clear mc_;clear HZ2;have HZ2:=mb0_;clear mb0_;clear HZ3;have HZ3:=mb1_;clear mb1_;clear HB6;have HB6:=mb2_;clear mb2_;clear HB7;have HB7:=mb3_;clear mb3_;clear HR6;have HR6:=mr0_;clear mr0_;clear hc_;have HDX:=La hdx_;clear hdx_)|(go_at_call 63;(with_reducible refine(cur_from (w0:=w0) (w:=w) (b:=b) (-2) 2 ?d1 ?d2 ?d3 ?c1).mono ?_);(case d1=>omega);(case d2=>omega);(case d3=>omega);(case c1=>exact(by repeat(first|(with_reducible first|exact HC.out|apply CurQ.alloc|apply CurQ.drewN)|exact HC.out)));rintro e wc_ ⟨dy,rfl,hdx_,hc_⟩;have mb0_:=La (Blk.cur (by repeat(first|(with_reducible first|exact HZ2.out|apply Blk.alloc|apply Blk.drewN)|exact HZ2.out)) (by repeat(first|(with_reducible first|exact HC.out|apply CurQ.alloc|apply CurQ.drewN)|exact HC.out)) hc_);have mb1_:=La (Blk.cur (by repeat(first|(with_reducible first|exact HZ3.out|apply Blk.alloc|apply Blk.drewN)|exact HZ3.out)) (by repeat(first|(with_reducible first|exact HC.out|apply CurQ.alloc|apply CurQ.drewN)|exact HC.out)) hc_);have mb2_:=La (Blk.cur (by repeat(first|(with_reducible first|exact HB6.out|apply Blk.alloc|apply Blk.drewN)|exact HB6.out)) (by repeat(first|(with_reducible first|exact HC.out|apply CurQ.alloc|apply CurQ.drewN)|exact HC.out)) hc_);have mb3_:=La (Blk.cur (by repeat(first|(with_reducible first|exact HB7.out|apply Blk.alloc|apply Blk.drewN)|exact HB7.out)) (by repeat(first|(with_reducible first|exact HC.out|apply CurQ.alloc|apply CurQ.drewN)|exact HC.out)) hc_);have mr0_:=La (R_curI (e:=2) (d:=Kd.int .i64) (by decide) (by(with_reducible repeat(first|apply Le|apply Lf|apply Ld));exact HR6.out) (by repeat(first|(with_reducible first|exact HC.out|apply CurQ.alloc|apply CurQ.drewN)|exact HC.out)) hc_);have mc_:=La (CurQ.trans (by repeat(first|(with_reducible first|exact HC.out|apply CurQ.alloc|apply CurQ.drewN)|exact HC.out)) hc_);clear HC;have HC:=mc_;clear mc_;clear HZ2;have HZ2:=mb0_;clear mb0_;clear HZ3;have HZ3:=mb1_;clear mb1_;clear HB6;have HB6:=mb2_;clear mb2_;clear HB7;have HB7:=mb3_;clear mb3_;clear HR6;have HR6:=mr0_;clear mr0_;clear hc_;have HDY:=La hdx_;clear hdx_))
  ·have hza_:=(side_ne HS1.out).1
   have hza2_:=(side_ne HS1.out).2
   have hac_:=wrap_n hn_ hn2_
   have HRA:=La (R_apart0 (Li HR6.out (fun _ hk=>hk.1)))
   clear HR6
   have HR6:=HRA
   clear HRA
   go_loopg [10] n (fun gg v10 w'=>∃ (i:Nat) (xs:List Int) (A7_:Option Addr) (c7_:Nat),Aside0 (i≤n∧n - i≤gg)∧v10=.int .i64 (i:Int)∧Aside0 (xs.length=i)∧Aside0 (Blk w w' g6 #[.int .i64 a,.int .i64 c,.slice A6_ xs6.length c6_])∧Aside0 (Blk w w' g7 #[.int .i64 a,.int .i64 c,.slice A7_ xs.length c7_])∧Aside0 (Kd.R (Kd.int .i64) 2 w' w0.heap.size (fun k=>w.heap.size≤k∧some k≠(Value.slice A7_ xs.length c7_).ownBlock) (.slice A6_ xs6.length c6_) xs6)∧Aside0 (Kd.R (Kd.int .i64) 2 w' w0.heap.size (fun k=>w.heap.size≤k) (.slice A7_ xs.length c7_) xs)∧Aside0 (Blk w w' g2 #[.int .i64 0,.int .i64 0,.slice none 0 0])∧Aside0 (Blk w w' g3 #[.int .i64 0,.int .i64 0,.slice none 0 0])∧Aside0 (CurQ w0 b g w w'))
   case atStart=>exact⟨0,[],none,0,⟨Nat.zero_le _,Nat.le_refl _⟩,rfl,⟨rfl⟩,HB6,HB7,HR6,⟨Kd.R_nil _ _ _ _ _⟩,HZ2,HZ3,HC⟩
   case round=>
    clear HB6 HB7 HR6 HZ2 HZ3 HC
    obtain⟨i,xs,A7_,c7_,HK,rfl,HXL,HB6,HB7,HR6,HR7,HZ2,HZ3,HC⟩:=hrel
    by_cases hlt:i < n
    ·have hltb:decide ((i:Int) < (n:Int))=true:=decide_eq_true (by exact Int.ofNat_lt.2 hlt)
     have hf06_:=Lb HB6.out.2 0
     have hz06_:wr.cell? ⟨g6,0,none⟩=some (.int .i64 a):=(Lc HB6.out.2 0).trans rfl
     have hf16_:=Lb HB6.out.2 1
     have hz16_:wr.cell? ⟨g6,1,none⟩=some (.int .i64 c):=(Lc HB6.out.2 1).trans rfl
     have hf26_:=Lb HB6.out.2 2
     have hz26_:wr.cell? ⟨g6,2,none⟩=some (.slice A6_ xs6.length c6_):=(Lc HB6.out.2 2).trans rfl
     have hwi_:=wrap_i hlt hn2_
     go_wp2
     refine wp_region_held_drew (S:=(fun w'=>w'.cell? ⟨g6,0,none⟩=some (.int .i64 a)∧w'.cell? ⟨g6,1,none⟩=some (.int .i64 c)∧w'.cell? ⟨g6,2,none⟩=some (.slice A6_ xs6.length c6_))) (by kernel_rfl) ?hS_ (fun hS0=>?hr_)
     case hS_=>go_keep
     refine wpAnyH_take (i:=0) (oi:={ dst:=some 44,op:=Go.Op.load 27 (Go.Operand.tmp 6),type:=27,pos:="l14_coder.go:246",after:=#[],guard:=none }) (v:=?vv_u0) rfl (by kernel_rfl) (by kernel_rfl) (by kernel_rfl) (fun _ _ _ h=>h) (Or.inl ⟨by rfl,?hy_u0⟩) (by assumption) ?rest_u0
     case hy_u0=>(intro w hSw;(try dsimp only at hSw);first|(go_simp;done)|(go_simp;with_reducible rfl))
     try simp only [Act.put,List.setIfInBounds_toArray,List.set_cons_zero,List.set_cons_succ]
     refine wpAnyH_take (i:=1) (oi:={ dst:=some 45,op:=Go.Op.move (Go.Operand.tmp 10),type:=2,pos:="l14_coder.go:246",after:=#[],guard:=none }) (v:=?vv_u1) rfl (by kernel_rfl) (by kernel_rfl) (by kernel_rfl) (fun _ _ _ h=>h) (Or.inl ⟨by rfl,?hy_u1⟩) (by assumption) ?rest_u1
     case hy_u1=>(intro w hSw;(try dsimp only at hSw);first|(go_simp;done)|(go_simp;with_reducible rfl))
     try simp only [Act.put,List.setIfInBounds_toArray,List.set_cons_zero,List.set_cons_succ]
     refine wpAnyH_take (i:=2) (oi:={ dst:=some 46,op:=Go.Op.move (Go.Operand.tmp 4),type:=2,pos:="l14_coder.go:246",after:=#[],guard:=none }) (v:=?vv_u2) rfl (by kernel_rfl) (by kernel_rfl) (by kernel_rfl) (fun _ _ _ h=>h) (Or.inl ⟨by rfl,?hy_u2⟩) (by assumption) ?rest_u2
     case hy_u2=>(intro w hSw;(try dsimp only at hSw);first|(go_simp;done)|(go_simp;with_reducible rfl))
     try simp only [Act.put,List.setIfInBounds_toArray,List.set_cons_zero,List.set_cons_succ]
     refine wpAnyH_take (i:=3) (oi:={ dst:=some 47,op:=Go.Op.binOp Go.BinOp.rem 2 (Go.Operand.tmp 45) (Go.Operand.tmp 46) 2,type:=2,pos:="l14_coder.go:246",after:=#[{ on:=1,ground:=Go.Ground.data },{ on:=2,ground:=Go.Ground.data }],guard:=none }) (v:=?vv_u3) rfl (by kernel_rfl) (by kernel_rfl) (by kernel_rfl) (fun _ _ _ h=>h) (Or.inl ⟨by rfl,?hy_u3⟩) (by assumption) ?rest_u3
     case hy_u3=>(intro w hSw;(try dsimp only at hSw);first|(go_simp;done)|(go_simp;with_reducible rfl))
     try simp only [Act.put,List.setIfInBounds_toArray,List.set_cons_zero,List.set_cons_succ]
     refine wpAnyH_take (i:=4) (oi:={ dst:=some 48,op:=Go.Op.move (Go.Operand.tmp 8),type:=2,pos:="l14_coder.go:246",after:=#[],guard:=none }) (v:=?vv_u4) rfl (by kernel_rfl) (by kernel_rfl) (by kernel_rfl) (fun _ _ _ h=>h) (Or.inl ⟨by rfl,?hy_u4⟩) (by assumption) ?rest_u4
     case hy_u4=>(intro w hSw;(try dsimp only at hSw);first|(go_simp;done)|(go_simp;with_reducible rfl))
     try simp only [Act.put,List.setIfInBounds_toArray,List.set_cons_zero,List.set_cons_succ]
     refine wpAnyH_take (i:=5) (oi:={ dst:=some 49,op:=Go.Op.binOp Go.BinOp.add 2 (Go.Operand.tmp 47) (Go.Operand.tmp 48) 2,type:=2,pos:="l14_coder.go:246",after:=#[{ on:=3,ground:=Go.Ground.data },{ on:=4,ground:=Go.Ground.data }],guard:=none }) (v:=?vv_u5) rfl (by kernel_rfl) (by kernel_rfl) (by kernel_rfl) (fun _ _ _ h=>h) (Or.inl ⟨by rfl,?hy_u5⟩) (by assumption) ?rest_u5
     case hy_u5=>(intro w hSw;(try dsimp only at hSw);first|(go_simp;done)|(go_simp;with_reducible rfl))
     try simp only [Act.put,List.setIfInBounds_toArray,List.set_cons_zero,List.set_cons_succ]
     refine wpAnyH_take (i:=6) (oi:={ dst:=some 50,op:=Go.Op.move (Go.Operand.tmp 10),type:=2,pos:="l14_coder.go:246",after:=#[],guard:=none }) (v:=?vv_u6) rfl (by kernel_rfl) (by kernel_rfl) (by kernel_rfl) (fun _ _ _ h=>h) (Or.inl ⟨by rfl,?hy_u6⟩) (by assumption) ?rest_u6
     case hy_u6=>(intro w hSw;(try dsimp only at hSw);first|(go_simp;done)|(go_simp;with_reducible rfl))
     try simp only [Act.put,List.setIfInBounds_toArray,List.set_cons_zero,List.set_cons_succ]
     refine wpAnyH_take (i:=7) (oi:={ dst:=some 51,op:=Go.Op.move (Go.Operand.tmp 4),type:=2,pos:="l14_coder.go:246",after:=#[],guard:=none }) (v:=?vv_u7) rfl (by kernel_rfl) (by kernel_rfl) (by kernel_rfl) (fun _ _ _ h=>h) (Or.inl ⟨by rfl,?hy_u7⟩) (by assumption) ?rest_u7
     case hy_u7=>(intro w hSw;(try dsimp only at hSw);first|(go_simp;done)|(go_simp;with_reducible rfl))
     try simp only [Act.put,List.setIfInBounds_toArray,List.set_cons_zero,List.set_cons_succ]
     refine wpAnyH_take (i:=8) (oi:={ dst:=some 52,op:=Go.Op.binOp Go.BinOp.quo 2 (Go.Operand.tmp 50) (Go.Operand.tmp 51) 2,type:=2,pos:="l14_coder.go:246",after:=#[{ on:=6,ground:=Go.Ground.data },{ on:=7,ground:=Go.Ground.data }],guard:=none }) (v:=?vv_u8) rfl (by kernel_rfl) (by kernel_rfl) (by kernel_rfl) (fun _ _ _ h=>h) (Or.inl ⟨by rfl,?hy_u8⟩) (by assumption) ?rest_u8
     case hy_u8=>(intro w hSw;(try dsimp only at hSw);first|(go_simp;done)|(go_simp;with_reducible rfl))
     try simp only [Act.put,List.setIfInBounds_toArray,List.set_cons_zero,List.set_cons_succ]
     refine wpAnyH_take (i:=9) (oi:={ dst:=some 53,op:=Go.Op.move (Go.Operand.tmp 9),type:=2,pos:="l14_coder.go:246",after:=#[],guard:=none }) (v:=?vv_u9) rfl (by kernel_rfl) (by kernel_rfl) (by kernel_rfl) (fun _ _ _ h=>h) (Or.inl ⟨by rfl,?hy_u9⟩) (by assumption) ?rest_u9
     case hy_u9=>(intro w hSw;(try dsimp only at hSw);first|(go_simp;done)|(go_simp;with_reducible rfl))
     try simp only [Act.put,List.setIfInBounds_toArray,List.set_cons_zero,List.set_cons_succ]
     refine wpAnyH_take (i:=10) (oi:={ dst:=some 54,op:=Go.Op.binOp Go.BinOp.add 2 (Go.Operand.tmp 52) (Go.Operand.tmp 53) 2,type:=2,pos:="l14_coder.go:246",after:=#[{ on:=8,ground:=Go.Ground.data },{ on:=9,ground:=Go.Ground.data }],guard:=none }) (v:=?vv_u10) rfl (by kernel_rfl) (by kernel_rfl) (by kernel_rfl) (fun _ _ _ h=>h) (Or.inl ⟨by rfl,?hy_u10⟩) (by assumption) ?rest_u10
     case hy_u10=>(intro w hSw;(try dsimp only at hSw);first|(go_simp;done)|(go_simp;with_reducible rfl))
     try simp only [Act.put,List.setIfInBounds_toArray,List.set_cons_zero,List.set_cons_succ]
     refine wpAnyH_ready (rs:=[11]) (by kernel_rfl) (by simp) ?_
     refine AllReadyH.cons (o:={ dst:=some 55,op:=Go.Op.call { callee:=Go.Callee.value (Go.Operand.func 93),args:=#[Go.Operand.tmp 44,Go.Operand.tmp 49,Go.Operand.tmp 54],argTypes:=#[27,2,2] },type:=2,pos:="l14_coder.go:246",after:=#[{ on:=0,ground:=Go.Ground.data },{ on:=5,ground:=Go.Ground.data },{ on:=10,ground:=Go.Ground.data }],guard:=none }) rfl (fun K hK=>?_) AllReadyH.nil
     go_simp
     (go_at_call 93;(with_reducible refine(at_calls HS1.out HS2.out (len_nat HL6.out hn_) _ _ ?s1_ ?t1_).mono ?_);(case s1_=>exact(Kd.R_reads' (Ld HR6.out)).2.2);(case t1_=>exact(Kd.R_reads' HR6.out).2.1);rintro e wk_ ⟨ra_,rfl,hb_⟩;have mb0_:=La (Blk.below (by repeat(first|(with_reducible first|exact HZ2.out|apply Blk.alloc|apply Blk.drewN|apply Blk.drew)|exact HZ2.out)) hb_);have mb1_:=La (Blk.below (by repeat(first|(with_reducible first|exact HZ3.out|apply Blk.alloc|apply Blk.drewN|apply Blk.drew)|exact HZ3.out)) hb_);have mb2_:=La (Blk.below (by repeat(first|(with_reducible first|exact HB6.out|apply Blk.alloc|apply Blk.drewN|apply Blk.drew)|exact HB6.out)) hb_);have mb3_:=La (Blk.below (by repeat(first|(with_reducible first|exact HB7.out|apply Blk.alloc|apply Blk.drewN|apply Blk.drew)|exact HB7.out)) hb_);have mr0_:=La (Kd.R_below (Ld HR6.out) hb_);have mr1_:=La (Kd.R_below (Ld HR7.out) hb_);have mc_:=La (CurQ.below (by repeat(first|(with_reducible first|exact HC.out|apply CurQ.alloc|apply CurQ.drewN|apply CurQ.drew)|exact HC.out)) hb_);clear HC;have HC:=mc_;clear mc_;clear HZ2;have HZ2:=mb0_;clear mb0_;clear HZ3;have HZ3:=mb1_;clear mb1_;clear HB6;have HB6:=mb2_;clear mb2_;clear HB7;have HB7:=mb3_;clear mb3_;clear HR6;have HR6:=mr0_;clear mr0_;clear HR7;have HR7:=mr1_;clear mr1_;clear hb_;have hf06_:=Lb HB6.out.2 0;have hz06_:wk_.cell? ⟨g6,0,none⟩=some (.int .i64 a):=(Lc HB6.out.2 0).trans rfl;have hf16_:=Lb HB6.out.2 1;have hz16_:wk_.cell? ⟨g6,1,none⟩=some (.int .i64 c):=(Lc HB6.out.2 1).trans rfl;have hf26_:=Lb HB6.out.2 2;have hz26_:wk_.cell? ⟨g6,2,none⟩=some (.slice A6_ xs6.length c6_):=(Lc HB6.out.2 2).trans rfl)
     refine hK.out _ _ ?hs_u11 (fun hHeld=>?hr_u11)
     case hs_u11=>go_keep
     clear hK K
     try simp only [Act.put,List.setIfInBounds_toArray,List.set_cons_zero,List.set_cons_succ]
     refine wpAnyH_take (i:=12) (oi:={ dst:=some 11,op:=Go.Op.assign (Go.Operand.tmp 55),type:=2,pos:="l14_coder.go:246",after:=#[{ on:=11,ground:=Go.Ground.data },{ on:=11,ground:=Go.Ground.chain },{ on:=0,ground:=Go.Ground.phase },{ on:=1,ground:=Go.Ground.phase },{ on:=2,ground:=Go.Ground.phase },{ on:=3,ground:=Go.Ground.phase },{ on:=4,ground:=Go.Ground.phase },{ on:=5,ground:=Go.Ground.phase },{ on:=6,ground:=Go.Ground.phase },{ on:=7,ground:=Go.Ground.phase },{ on:=8,ground:=Go.Ground.phase },{ on:=9,ground:=Go.Ground.phase },{ on:=10,ground:=Go.Ground.phase },{ on:=11,ground:=Go.Ground.phase }],guard:=none }) (v:=?vv_u12) rfl (by kernel_rfl) (by kernel_rfl) (by kernel_rfl) (fun _ _ _ h=>h) (Or.inl ⟨by rfl,?hy_u12⟩) (by assumption) ?rest_u12
     case hy_u12=>(intro w hSw;(try dsimp only at hSw);first|(go_simp;done)|(go_simp;with_reducible rfl))
     try simp only [Act.put,List.setIfInBounds_toArray,List.set_cons_zero,List.set_cons_succ]
     refine wpAnyH_done (by kernel_rfl) ?_ _
     clear hHeld hS0 hx1_ hx2_ hy1_ hy2_ hac_ hza_ hza2_
     go_wp2_with (first|(go_at_call 64;(with_reducible refine(cur_once (w0:=w0) (w:=w) (b:=b) 9 ?c1).mono ?_);(case c1=>exact(by repeat(first|(with_reducible first|exact HC.out|apply CurQ.alloc|apply CurQ.drewN)|exact HC.out)));rintro e wc_ ⟨q9_,rfl,hc_⟩;have mb0_:=La (Blk.cur (by repeat(first|(with_reducible first|exact HZ2.out|apply Blk.alloc|apply Blk.drewN)|exact HZ2.out)) (by repeat(first|(with_reducible first|exact HC.out|apply CurQ.alloc|apply CurQ.drewN)|exact HC.out)) hc_);have mb1_:=La (Blk.cur (by repeat(first|(with_reducible first|exact HZ3.out|apply Blk.alloc|apply Blk.drewN)|exact HZ3.out)) (by repeat(first|(with_reducible first|exact HC.out|apply CurQ.alloc|apply CurQ.drewN)|exact HC.out)) hc_);have mb2_:=La (Blk.cur (by repeat(first|(with_reducible first|exact HB6.out|apply Blk.alloc|apply Blk.drewN)|exact HB6.out)) (by repeat(first|(with_reducible first|exact HC.out|apply CurQ.alloc|apply CurQ.drewN)|exact HC.out)) hc_);have mb3_:=La (Blk.cur (by repeat(first|(with_reducible first|exact HB7.out|apply Blk.alloc|apply Blk.drewN)|exact HB7.out)) (by repeat(first|(with_reducible first|exact HC.out|apply CurQ.alloc|apply CurQ.drewN)|exact HC.out)) hc_);have mr0_:=La (R_curI (e:=2) (d:=Kd.int .i64) (by decide) (by(with_reducible repeat(first|apply Le|apply Lf|apply Ld));exact HR6.out) (by repeat(first|(with_reducible first|exact HC.out|apply CurQ.alloc|apply CurQ.drewN)|exact HC.out)) hc_);have mr1_:=La (R_curI (e:=2) (d:=Kd.int .i64) (by decide) (by(with_reducible repeat(first|apply Le|apply Lf|apply Ld));exact HR7.out) (by repeat(first|(with_reducible first|exact HC.out|apply CurQ.alloc|apply CurQ.drewN)|exact HC.out)) hc_);have mc_:=La (CurQ.trans (by repeat(first|(with_reducible first|exact HC.out|apply CurQ.alloc|apply CurQ.drewN)|exact HC.out)) hc_);clear HC;have HC:=mc_;clear mc_;clear HZ2;have HZ2:=mb0_;clear mb0_;clear HZ3;have HZ3:=mb1_;clear mb1_;clear HB6;have HB6:=mb2_;clear mb2_;clear HB7;have HB7:=mb3_;clear mb3_;clear HR6;have HR6:=mr0_;clear mr0_;clear HR7;have HR7:=mr1_;clear mr1_;clear hc_;have hf07_:=Lb HB7.out.2 0;have hz07_:wc_.cell? ⟨g7,0,none⟩=some (.int .i64 a):=(Lc HB7.out.2 0).trans rfl;have hf17_:=Lb HB7.out.2 1;have hz17_:wc_.cell? ⟨g7,1,none⟩=some (.int .i64 c):=(Lc HB7.out.2 1).trans rfl;have hf27_:=Lb HB7.out.2 2;have hz27_:wc_.cell? ⟨g7,2,none⟩=some (.slice A7_ xs.length c7_):=(Lc HB7.out.2 2).trans rfl)|(go_at_call 65;(with_reducible refine(cur_below (w0:=w0) (w:=w) (b:=b) 256 ?c1).mono ?_);(case c1=>exact(by repeat(first|(with_reducible first|exact HC.out|apply CurQ.alloc|apply CurQ.drewN)|exact HC.out)));rintro e wc_ ⟨rb_,rfl,⟨_,_⟩,hc_⟩;have mb0_:=La (Blk.cur (by repeat(first|(with_reducible first|exact HZ2.out|apply Blk.alloc|apply Blk.drewN)|exact HZ2.out)) (by repeat(first|(with_reducible first|exact HC.out|apply CurQ.alloc|apply CurQ.drewN)|exact HC.out)) hc_);have mb1_:=La (Blk.cur (by repeat(first|(with_reducible first|exact HZ3.out|apply Blk.alloc|apply Blk.drewN)|exact HZ3.out)) (by repeat(first|(with_reducible first|exact HC.out|apply CurQ.alloc|apply CurQ.drewN)|exact HC.out)) hc_);have mb2_:=La (Blk.cur (by repeat(first|(with_reducible first|exact HB6.out|apply Blk.alloc|apply Blk.drewN)|exact HB6.out)) (by repeat(first|(with_reducible first|exact HC.out|apply CurQ.alloc|apply CurQ.drewN)|exact HC.out)) hc_);have mb3_:=La (Blk.cur (by repeat(first|(with_reducible first|exact HB7.out|apply Blk.alloc|apply Blk.drewN)|exact HB7.out)) (by repeat(first|(with_reducible first|exact HC.out|apply CurQ.alloc|apply CurQ.drewN)|exact HC.out)) hc_);have mr0_:=La (R_curI (e:=2) (d:=Kd.int .i64) (by decide) (by(with_reducible repeat(first|apply Le|apply Lf|apply Ld));exact HR6.out) (by repeat(first|(with_reducible first|exact HC.out|apply CurQ.alloc|apply CurQ.drewN)|exact HC.out)) hc_);have mr1_:=La (R_curI (e:=2) (d:=Kd.int .i64) (by decide) (by(with_reducible repeat(first|apply Le|apply Lf|apply Ld));exact HR7.out) (by repeat(first|(with_reducible first|exact HC.out|apply CurQ.alloc|apply CurQ.drewN)|exact HC.out)) hc_);have mc_:=La (CurQ.trans (by repeat(first|(with_reducible first|exact HC.out|apply CurQ.alloc|apply CurQ.drewN)|exact HC.out)) hc_);clear HC;have HC:=mc_;clear mc_;clear HZ2;have HZ2:=mb0_;clear mb0_;clear HZ3;have HZ3:=mb1_;clear mb1_;clear HB6;have HB6:=mb2_;clear mb2_;clear HB7;have HB7:=mb3_;clear mb3_;clear HR6;have HR6:=mr0_;clear mr0_;clear HR7;have HR7:=mr1_;clear mr1_;clear hc_;have hf07_:=Lb HB7.out.2 0;have hz07_:wc_.cell? ⟨g7,0,none⟩=some (.int .i64 a):=(Lc HB7.out.2 0).trans rfl;have hf17_:=Lb HB7.out.2 1;have hz17_:wc_.cell? ⟨g7,1,none⟩=some (.int .i64 c):=(Lc HB7.out.2 1).trans rfl;have hf27_:=Lb HB7.out.2 2;have hz27_:wc_.cell? ⟨g7,2,none⟩=some (.slice A7_ xs.length c7_):=(Lc HB7.out.2 2).trans rfl)|((with_reducible refine gate_builtin (b:=.append) (xs:=#[.tmp 61,.tmp 63]) rfl ?_);at_builtin;refine R_appendh (w0:=w0) w0.heap.size rfl (.tmp 61) (.tmp 63) 22 2 rfl Try.underlying22 finfoI (.slice A7_ xs.length c7_) xs (fun k_=>w.heap.size≤k_) rfl rfl ?aF ?aO ?aB ?aS (app_lim HXL.out hlt hn2_) ?_;(case aF=>exact(fun _ hk_=>Nat.le_trans (cur_size (by repeat(first|(with_reducible first|exact HC.out|apply CurQ.alloc|apply CurQ.drewN)|exact HC.out))) hk_));(case aO=>exact(by(with_reducible repeat(first|apply Le|apply Lf|apply Ld));exact HR7.out));(case aB=>exact(cur_blw (by repeat(first|(with_reducible first|exact HC.out|apply CurQ.alloc|apply CurQ.drewN)|exact HC.out))));(case aS=>exact(Below.size (cur_blw (by repeat(first|(with_reducible first|exact HC.out|apply CurQ.alloc|apply CurQ.drewN)|exact HC.out)))));intro va_ wa_ ys_ hyl_ hoa_ hba_ hg_ hat_;have n0_:=La (cur_append (e:=2) (d:=Kd.int .i64) (by decide) (by repeat(first|(with_reducible first|exact HC.out|apply CurQ.alloc|apply CurQ.drewN)|exact HC.out)) (by(with_reducible repeat(first|apply Le|apply Lf|apply Ld));exact HR7.out) hg_ hba_);have ng0_:=La (Blk.grown (by repeat(first|(with_reducible first|exact HZ2.out|apply Blk.alloc|apply Blk.drewN)|exact HZ2.out)) (by(with_reducible repeat(first|apply Le|apply Lf|apply Ld));exact HR7.out) hg_);have ng1_:=La (Blk.grown (by repeat(first|(with_reducible first|exact HZ3.out|apply Blk.alloc|apply Blk.drewN)|exact HZ3.out)) (by(with_reducible repeat(first|apply Le|apply Lf|apply Ld));exact HR7.out) hg_);have ng2_:=La (Blk.grown (by repeat(first|(with_reducible first|exact HB6.out|apply Blk.alloc|apply Blk.drewN)|exact HB6.out)) (by(with_reducible repeat(first|apply Le|apply Lf|apply Ld));exact HR7.out) hg_);have ng3_:=La (Blk.grown (by repeat(first|(with_reducible first|exact HB7.out|apply Blk.alloc|apply Blk.drewN)|exact HB7.out)) (by(with_reducible repeat(first|apply Le|apply Lf|apply Ld));exact HR7.out) hg_);have n6_:=La (Kd.R_after (by(with_reducible repeat(first|apply Le|apply Lf|apply Ld));exact HR6.out) hg_ hat_);clear HC HR6 HR7;have HC:=n0_;have HR6:=n6_;clear n0_ n6_;clear HZ2;have HZ2:=ng0_;clear ng0_;clear HZ3;have HZ3:=ng1_;clear ng1_;clear HB6;have HB6:=ng2_;clear ng2_;clear HB7;have HB7:=ng3_;clear ng3_;obtain⟨A2_,c2_,e2_⟩:=Kd.R_slice hoa_;subst e2_;have HRN:=La hoa_;have HYL:=La hyl_;clear hoa_ hba_ hg_ hyl_ hat_;have hf07_:=Lb HB7.out.2 0;have hz07_:wa_.cell? ⟨g7,0,none⟩=some (.int .i64 a):=(Lc HB7.out.2 0).trans rfl;have hf17_:=Lb HB7.out.2 1;have hz17_:wa_.cell? ⟨g7,1,none⟩=some (.int .i64 c):=(Lc HB7.out.2 1).trans rfl;have hf27_:=Lb HB7.out.2 2;have hz27_:wa_.cell? ⟨g7,2,none⟩=some (.slice A7_ xs.length c7_):=(Lc HB7.out.2 2).trans rfl))
     all_goals
      go_roundg (n - (i+1))
      case measure=>
       have h_:=HK.out
       exact sub_lt2_ h_.2 hlt
      case rel=>exact⟨i+1,ys_,A2_,c2_,⟨hlt,Nat.le_refl _⟩,by first|rfl|(rw [hwi_]),⟨HYL.out.trans (congrArg (· + 1) HXL.out)⟩,⟨Blk.far HB6.out (p:=⟨g7,2,none⟩) HNg6_g7.out (.slice A2_ ys_.length c2_)⟩,⟨Blk.put HB7.out 2 (.slice A2_ ys_.length c2_)⟩,⟨R_setB (j:=2) HR6.out HB7.out (.slice A2_ ys_.length c2_)⟩,⟨R_setB (j:=2) HRN.out HB7.out (.slice A2_ ys_.length c2_)⟩,⟨Blk.far HZ2.out (p:=⟨g7,2,none⟩) HNg2_g7.out (.slice A2_ ys_.length c2_)⟩,⟨Blk.far HZ3.out (p:=⟨g7,2,none⟩) HNg3_g7.out (.slice A2_ ys_.length c2_)⟩,⟨CurQ.setB HC.out HB7.out 2 (.slice A2_ ys_.length c2_) HW.out⟩⟩
    ·have hltb:decide ((i:Int) < (n:Int))=false:=decide_eq_false (fun h=>hlt (Int.ofNat_lt.1 h))
     go_wp2
     go_meet
     exact⟨A7_,c7_,xs,HXL.out.trans (Nat.le_antisymm HK.out.1 (Nat.le_of_not_lt hlt)),HZ2.out,HZ3.out,HB6.out,HB7.out,HR6.out,HR7.out,HC.out⟩
  ·go_meet
   exact⟨A7_,c7_,xs7,HL7.out,HZ2.out,HZ3.out,HB6.out,HB7.out,HR6.out,HR7.out,HC.out⟩
 case rest=>
  clear HZ2 HZ3 HB6 HB7 HR6 HR7 HC HL7 hx1_ hx2_ hy1_ hy2_
  obtain⟨A7_,c7_,xs7,⟨hl7_,z2_,z3_,b6_,b7_,r6_,r7_,cu_⟩⟩:=hcut
  have HZ2:=La z2_
  have HZ3:=La z3_
  have HB6:=La b6_
  have HB7:=La b7_
  have HR6:=La r6_
  have HR7:=La r7_
  have HC:=La cu_
  have HL7:=La hl7_
  clear z2_ z3_ b6_ b7_ r6_ r7_ cu_ hl7_
  go_wp2_with (first|(go_at_call 64;(with_reducible refine(cur_once (w0:=w0) (w:=w) (b:=b) 20 ?c1).mono ?_);(case c1=>exact(by repeat(first|(with_reducible first|exact HC.out|apply CurQ.alloc|apply CurQ.drewN)|exact HC.out)));rintro e wc_ ⟨q20_,rfl,hc_⟩;have mb0_:=La (Blk.cur (by repeat(first|(with_reducible first|exact HZ2.out|apply Blk.alloc|apply Blk.drewN)|exact HZ2.out)) (by repeat(first|(with_reducible first|exact HC.out|apply CurQ.alloc|apply CurQ.drewN)|exact HC.out)) hc_);have mb1_:=La (Blk.cur (by repeat(first|(with_reducible first|exact HZ3.out|apply Blk.alloc|apply Blk.drewN)|exact HZ3.out)) (by repeat(first|(with_reducible first|exact HC.out|apply CurQ.alloc|apply CurQ.drewN)|exact HC.out)) hc_);have mb2_:=La (Blk.cur (by repeat(first|(with_reducible first|exact HB6.out|apply Blk.alloc|apply Blk.drewN)|exact HB6.out)) (by repeat(first|(with_reducible first|exact HC.out|apply CurQ.alloc|apply CurQ.drewN)|exact HC.out)) hc_);have mb3_:=La (Blk.cur (by repeat(first|(with_reducible first|exact HB7.out|apply Blk.alloc|apply Blk.drewN)|exact HB7.out)) (by repeat(first|(with_reducible first|exact HC.out|apply CurQ.alloc|apply CurQ.drewN)|exact HC.out)) hc_);have mr0_:=La (R_curI (e:=2) (d:=Kd.int .i64) (by decide) (by(with_reducible repeat(first|apply Le|apply Lf|apply Ld));exact HR6.out) (by repeat(first|(with_reducible first|exact HC.out|apply CurQ.alloc|apply CurQ.drewN)|exact HC.out)) hc_);have mr1_:=La (R_curI (e:=2) (d:=Kd.int .i64) (by decide) (by(with_reducible repeat(first|apply Le|apply Lf|apply Ld));exact HR7.out) (by repeat(first|(with_reducible first|exact HC.out|apply CurQ.alloc|apply CurQ.drewN)|exact HC.out)) hc_);have mc_:=La (CurQ.trans (by repeat(first|(with_reducible first|exact HC.out|apply CurQ.alloc|apply CurQ.drewN)|exact HC.out)) hc_);clear HC;have HC:=mc_;clear mc_;clear HZ2;have HZ2:=mb0_;clear mb0_;clear HZ3;have HZ3:=mb1_;clear mb1_;clear HB6;have HB6:=mb2_;clear mb2_;clear HB7;have HB7:=mb3_;clear mb3_;clear HR6;have HR6:=mr0_;clear mr0_;clear HR7;have HR7:=mr1_;clear mr1_;clear hc_)|(go_at_call 65;(with_reducible refine(cur_below (w0:=w0) (w:=w) (b:=b) 4 ?c1).mono ?_);(case c1=>exact(by repeat(first|(with_reducible first|exact HC.out|apply CurQ.alloc|apply CurQ.drewN)|exact HC.out)));rintro e wc_ ⟨r4_,rfl,⟨_,_⟩,hc_⟩;have mb0_:=La (Blk.cur (by repeat(first|(with_reducible first|exact HZ2.out|apply Blk.alloc|apply Blk.drewN)|exact HZ2.out)) (by repeat(first|(with_reducible first|exact HC.out|apply CurQ.alloc|apply CurQ.drewN)|exact HC.out)) hc_);have mb1_:=La (Blk.cur (by repeat(first|(with_reducible first|exact HZ3.out|apply Blk.alloc|apply Blk.drewN)|exact HZ3.out)) (by repeat(first|(with_reducible first|exact HC.out|apply CurQ.alloc|apply CurQ.drewN)|exact HC.out)) hc_);have mb2_:=La (Blk.cur (by repeat(first|(with_reducible first|exact HB6.out|apply Blk.alloc|apply Blk.drewN)|exact HB6.out)) (by repeat(first|(with_reducible first|exact HC.out|apply CurQ.alloc|apply CurQ.drewN)|exact HC.out)) hc_);have mb3_:=La (Blk.cur (by repeat(first|(with_reducible first|exact HB7.out|apply Blk.alloc|apply Blk.drewN)|exact HB7.out)) (by repeat(first|(with_reducible first|exact HC.out|apply CurQ.alloc|apply CurQ.drewN)|exact HC.out)) hc_);have mr0_:=La (R_curI (e:=2) (d:=Kd.int .i64) (by decide) (by(with_reducible repeat(first|apply Le|apply Lf|apply Ld));exact HR6.out) (by repeat(first|(with_reducible first|exact HC.out|apply CurQ.alloc|apply CurQ.drewN)|exact HC.out)) hc_);have mr1_:=La (R_curI (e:=2) (d:=Kd.int .i64) (by decide) (by(with_reducible repeat(first|apply Le|apply Lf|apply Ld));exact HR7.out) (by repeat(first|(with_reducible first|exact HC.out|apply CurQ.alloc|apply CurQ.drewN)|exact HC.out)) hc_);have mc_:=La (CurQ.trans (by repeat(first|(with_reducible first|exact HC.out|apply CurQ.alloc|apply CurQ.drewN)|exact HC.out)) hc_);clear HC;have HC:=mc_;clear mc_;clear HZ2;have HZ2:=mb0_;clear mb0_;clear HZ3;have HZ3:=mb1_;clear mb1_;clear HB6;have HB6:=mb2_;clear mb2_;clear HB7;have HB7:=mb3_;clear mb3_;clear HR6;have HR6:=mr0_;clear mr0_;clear HR7;have HR7:=mr1_;clear mr1_;clear hc_;have hnc_:c*a=(n:Int):=(by rw [Int.mul_comm];exact hn_);obtain⟨A9_,hA9_⟩:∃ A9_:Option Addr,A9_=(if c7_=1 then A7_ else A7_.map (·.add (1*1))):=⟨_,rfl⟩;have hcut_:∀ W:World,(Instr.slice 22 (.slice A7_ xs7.length c7_) (some (.int .i64 1)) none none).run Try.prog W=.ok (.slice A9_ (xs7.length - 1) (c7_ - 1)) W:=(by rw [hA9_];exact cut_from (P:=Try.prog) 22 2 .i64 Try.underlying22 HI0.out 1 HI1.out A7_ xs7.length c7_ 1 (by omega) (by have:=HL7.out;omega));have HV9:=La (by rw [hA9_];exact v_cut HR7.out HZ2.out HZ3.out HB7.out (by have:=HL7.out;omega):Kd.V (Kd.int .i64) 2 wc_ w0.heap.size (fun k=>((w.heap.size≤k∧k≠g2)∧k≠g3)∧k≠g7) (.slice A9_ (xs7.length - 1) (c7_ - 1)) (xs7.drop 1));clear hA9_;have hf07_:=Lb HB7.out.2 0;have hz07_:wc_.cell? ⟨g7,0,none⟩=some (.int .i64 a):=(Lc HB7.out.2 0).trans rfl;have hf17_:=Lb HB7.out.2 1;have hz17_:wc_.cell? ⟨g7,1,none⟩=some (.int .i64 c):=(Lc HB7.out.2 1).trans rfl;have hf27_:=Lb HB7.out.2 2;have hz27_:wc_.cell? ⟨g7,2,none⟩=some (.slice A7_ xs7.length c7_):=(Lc HB7.out.2 2).trans rfl)|((with_reducible refine gate_dst (N:=82) rfl ?_);refine Kd.R_lit (Kd.int .i64) _ 2 ?hg (N:=82) ?hd (xs:=[0,16,20,6,-4]) (inner:=[.int .i64 (0),.int .i64 (16),.int .i64 (20),.int .i64 (6),.int .i64 (-4)]) (ok:=(fun k_=>w.heap.size≤k_)) (okp:=(fun k_=>w.heap.size≤k_)) ?hr ?hp (fun _ hk=>hk) (cur_size (by repeat(first|(with_reducible first|exact HC.out|apply CurQ.alloc|apply CurQ.drewN)|exact HC.out))) (Below.refl _ _) (Nat.le_refl _) (by simp) ?_;(case hd=>rfl);(case hg=>rfl);(case hr=>first|(go_simp;done)|(go_simp;rfl));(case hp=>exact lit_i _);intro vl_ wl_ hol_ hb_ hg_ hnew_;clear hg_ hnew_;have HRL:=La (Kd.R_lower hol_ (Below.size (cur_blw (by repeat(first|(with_reducible first|exact HC.out|apply CurQ.alloc|apply CurQ.drewN)|exact HC.out)))));clear hol_;have mb0_:=La (Blk.below (by repeat(first|(with_reducible first|exact HZ2.out|apply Blk.alloc|apply Blk.drewN)|exact HZ2.out)) hb_);have mb1_:=La (Blk.below (by repeat(first|(with_reducible first|exact HZ3.out|apply Blk.alloc|apply Blk.drewN)|exact HZ3.out)) hb_);have mb2_:=La (Blk.below (by repeat(first|(with_reducible first|exact HB6.out|apply Blk.alloc|apply Blk.drewN)|exact HB6.out)) hb_);have mb3_:=La (Blk.below (by repeat(first|(with_reducible first|exact HB7.out|apply Blk.alloc|apply Blk.drewN)|exact HB7.out)) hb_);have mr0_:=La (Kd.R_below (by(with_reducible repeat(first|apply Le|apply Lf|apply Ld));exact HR6.out) hb_);have mr1_:=La (Kd.R_below (by(with_reducible repeat(first|apply Le|apply Lf|apply Ld));exact HR7.out) hb_);have mc_:=La (CurQ.below (by repeat(first|(with_reducible first|exact HC.out|apply CurQ.alloc|apply CurQ.drewN)|exact HC.out)) hb_);clear HC;have HC:=mc_;clear mc_;clear HZ2;have HZ2:=mb0_;clear mb0_;clear HZ3;have HZ3:=mb1_;clear mb1_;clear HB6;have HB6:=mb2_;clear mb2_;clear HB7;have HB7:=mb3_;clear mb3_;clear HR6;have HR6:=mr0_;clear mr0_;clear HR7;have HR7:=mr1_;clear mr1_;clear hb_;obtain⟨Al_,cl_,el_⟩:=Kd.R_slice HRL.out;subst el_)|(go_at_call 65;(with_reducible refine(cur_below (w0:=w0) (w:=w) (b:=b) 5 ?c1).mono ?_);(case c1=>exact(by repeat(first|(with_reducible first|exact HC.out|apply CurQ.alloc|apply CurQ.drewN)|exact HC.out)));rintro e wc_ ⟨r5_,rfl,⟨h50_,h51_⟩,hc_⟩;have mb0_:=La (Blk.cur (by repeat(first|(with_reducible first|exact HZ2.out|apply Blk.alloc|apply Blk.drewN)|exact HZ2.out)) (by repeat(first|(with_reducible first|exact HC.out|apply CurQ.alloc|apply CurQ.drewN)|exact HC.out)) hc_);have mb1_:=La (Blk.cur (by repeat(first|(with_reducible first|exact HZ3.out|apply Blk.alloc|apply Blk.drewN)|exact HZ3.out)) (by repeat(first|(with_reducible first|exact HC.out|apply CurQ.alloc|apply CurQ.drewN)|exact HC.out)) hc_);have mb2_:=La (Blk.cur (by repeat(first|(with_reducible first|exact HB6.out|apply Blk.alloc|apply Blk.drewN)|exact HB6.out)) (by repeat(first|(with_reducible first|exact HC.out|apply CurQ.alloc|apply CurQ.drewN)|exact HC.out)) hc_);have mb3_:=La (Blk.cur (by repeat(first|(with_reducible first|exact HB7.out|apply Blk.alloc|apply Blk.drewN)|exact HB7.out)) (by repeat(first|(with_reducible first|exact HC.out|apply CurQ.alloc|apply CurQ.drewN)|exact HC.out)) hc_);have mr0_:=La (R_curI (e:=2) (d:=Kd.int .i64) (by decide) (by(with_reducible repeat(first|apply Le|apply Lf|apply Ld));exact HR6.out) (by repeat(first|(with_reducible first|exact HC.out|apply CurQ.alloc|apply CurQ.drewN)|exact HC.out)) hc_);have mr1_:=La (R_curI (e:=2) (d:=Kd.int .i64) (by decide) (by(with_reducible repeat(first|apply Le|apply Lf|apply Ld));exact HR7.out) (by repeat(first|(with_reducible first|exact HC.out|apply CurQ.alloc|apply CurQ.drewN)|exact HC.out)) hc_);have mr2_:=La (R_curI (e:=2) (d:=Kd.int .i64) (by decide) (by(with_reducible repeat(first|apply Le|apply Lf|apply Ld));exact HRL.out) (by repeat(first|(with_reducible first|exact HC.out|apply CurQ.alloc|apply CurQ.drewN)|exact HC.out)) hc_);have mc_:=La (CurQ.trans (by repeat(first|(with_reducible first|exact HC.out|apply CurQ.alloc|apply CurQ.drewN)|exact HC.out)) hc_);clear HC;have HC:=mc_;clear mc_;clear HZ2;have HZ2:=mb0_;clear mb0_;clear HZ3;have HZ3:=mb1_;clear mb1_;clear HB6;have HB6:=mb2_;clear mb2_;clear HB7;have HB7:=mb3_;clear mb3_;clear HR6;have HR6:=mr0_;clear mr0_;clear HR7;have HR7:=mr1_;clear mr1_;clear HRL;have HRL:=mr2_;clear mr2_;clear hc_;obtain⟨adl_,el_,hxl_⟩:=Kd.at_int (Kd.R_reads' HRL.out).2.2 r5_ h50_ (by have h_:=h51_ (by decide);simpa using h_);cases el_;have pl_:(0≤r5_)=True:=eq_true h50_;have ql_:(r5_ < 5)=True:=eq_true (h51_ (by decide));obtain⟨q5_,hq5_⟩:∃ q_,rd [0,16,20,6,-4] r5_=q_:=⟨_,rfl⟩;rw [hq5_] at hxl_;have hf06_:=Lb HB6.out.2 0;have hz06_:wc_.cell? ⟨g6,0,none⟩=some (.int .i64 a):=(Lc HB6.out.2 0).trans rfl;have hf16_:=Lb HB6.out.2 1;have hz16_:wc_.cell? ⟨g6,1,none⟩=some (.int .i64 c):=(Lc HB6.out.2 1).trans rfl;have hf26_:=Lb HB6.out.2 2;have hz26_:wc_.cell? ⟨g6,2,none⟩=some (.slice A6_ xs6.length c6_):=(Lc HB6.out.2 2).trans rfl)|((with_reducible refine gate_store (t:=2) (p:=87) rfl ?_);refine store_event (t:=2) (p:=87) (v:=?vo8x_) (w1:=(wc_.setCell ⟨g6,0,none⟩ (.int .i64 q5_))) ?hg ?ho ?hn ?hr ?_;(case ho=>rfl);(case hg=>rfl);(case hn=>rfl);(case hr=>first|(go_simp;done)|(go_simp;rfl));intro ws_ hw_;subst hw_;have m0_:=La (show Blk w _ g6 #[.int .i64 q5_,.int .i64 c,.slice A6_ xs6.length c6_] from HB6.out.put 0 (.int .i64 q5_));have m1_:=La (Blk.far (p:=⟨g6,0,none⟩) HB7.out HNg6_g7.out.symm (.int .i64 q5_));have m2_:=La (Blk.far (p:=⟨g6,0,none⟩) HZ2.out HNg2_g6.out (.int .i64 q5_));have m3_:=La (Blk.far (p:=⟨g6,0,none⟩) HZ3.out HNg3_g6.out (.int .i64 q5_));have m4_:=La (R_setB (j:=0) HR6.out HB6.out (.int .i64 q5_));have m5_:=La (R_setB (j:=0) HR7.out HB6.out (.int .i64 q5_));have m6_:=La (CurQ.setB HC.out HB6.out 0 (.int .i64 q5_) HW.out);clear HB6 HB7 HZ2 HZ3 HR6 HR7 HC HRL hz06_ hz16_ hz26_ hf06_ hf16_ hf26_;revert m0_ m1_ m2_ m3_ m4_ m5_ m6_;generalize (wc_.setCell ⟨g6,0,none⟩ (.int .i64 q5_))=ww1_;intro HB6 HB7 HZ2 HZ3 HR6 HR7 HC)|(go_at_call 92;(with_reducible refine(spec_l14DrawPicture.calls (w0:=w0) (wc:=w) (b:=b) ?c1 c a n hnc_ hn2_).mono ?_);(case c1=>exact(by repeat(first|(with_reducible first|exact HC.out|apply CurQ.alloc|apply CurQ.drewN)|exact HC.out)));rintro e wc_ ⟨v8,xs8,rfl,ho_,hl8_,hc_⟩;have HR8:=La (show Kd.R (Kd.int .i64) 2 wc_ w0.heap.size (fun k=>w.heap.size≤k) v8 xs8 from(Li ho_ (fun _ hk_=>Nat.le_trans (cur_size (by repeat(first|(with_reducible first|exact HC.out|apply CurQ.alloc|apply CurQ.drewN)|exact HC.out))) hk_)));have HL8:=La hl8_;clear ho_ hl8_;have mb0_:=La (Blk.cur (by repeat(first|(with_reducible first|exact HZ2.out|apply Blk.alloc|apply Blk.drewN)|exact HZ2.out)) (by repeat(first|(with_reducible first|exact HC.out|apply CurQ.alloc|apply CurQ.drewN)|exact HC.out)) hc_);have mb1_:=La (Blk.cur (by repeat(first|(with_reducible first|exact HZ3.out|apply Blk.alloc|apply Blk.drewN)|exact HZ3.out)) (by repeat(first|(with_reducible first|exact HC.out|apply CurQ.alloc|apply CurQ.drewN)|exact HC.out)) hc_);have mb2_:=La (Blk.cur (by repeat(first|(with_reducible first|exact HB6.out|apply Blk.alloc|apply Blk.drewN)|exact HB6.out)) (by repeat(first|(with_reducible first|exact HC.out|apply CurQ.alloc|apply CurQ.drewN)|exact HC.out)) hc_);have mb3_:=La (Blk.cur (by repeat(first|(with_reducible first|exact HB7.out|apply Blk.alloc|apply Blk.drewN)|exact HB7.out)) (by repeat(first|(with_reducible first|exact HC.out|apply CurQ.alloc|apply CurQ.drewN)|exact HC.out)) hc_);have mr0_:=La (R_curI (e:=2) (d:=Kd.int .i64) (by decide) (by(with_reducible repeat(first|apply Le|apply Lf|apply Ld));exact HR6.out) (by repeat(first|(with_reducible first|exact HC.out|apply CurQ.alloc|apply CurQ.drewN)|exact HC.out)) hc_);have mr1_:=La (R_curI (e:=2) (d:=Kd.int .i64) (by decide) (by(with_reducible repeat(first|apply Le|apply Lf|apply Ld));exact HR7.out) (by repeat(first|(with_reducible first|exact HC.out|apply CurQ.alloc|apply CurQ.drewN)|exact HC.out)) hc_);have mc_:=La (CurQ.trans (by repeat(first|(with_reducible first|exact HC.out|apply CurQ.alloc|apply CurQ.drewN)|exact HC.out)) hc_);clear HC;have HC:=mc_;clear mc_;clear HZ2;have HZ2:=mb0_;clear mb0_;clear HZ3;have HZ3:=mb1_;clear mb1_;clear HB6;have HB6:=mb2_;clear mb2_;clear HB7;have HB7:=mb3_;clear mb3_;clear HR6;have HR6:=mr0_;clear mr0_;clear HR7;have HR7:=mr1_;clear mr1_;clear hc_;obtain⟨A8_,c8_,e8_⟩:=Kd.R_slice HR8.out;subst e8_;have hf07_:=Lb HB7.out.2 0;have hz07_:wc_.cell? ⟨g7,0,none⟩=some (.int .i64 a):=(Lc HB7.out.2 0).trans rfl;have hf17_:=Lb HB7.out.2 1;have hz17_:wc_.cell? ⟨g7,1,none⟩=some (.int .i64 c):=(Lc HB7.out.2 1).trans rfl;have hf27_:=Lb HB7.out.2 2;have hz27_:wc_.cell? ⟨g7,2,none⟩=some (.slice A7_ xs7.length c7_):=(Lc HB7.out.2 2).trans rfl)|((with_reducible refine gate_store (t:=27) (p:=7) rfl ?_);refine store_event (t:=27) (p:=7) (v:=?vo10x_) (w1:=((wc_.setCell ⟨g7,0,none⟩ (.int .i64 c)).setCell ⟨g7,1,none⟩ (.int .i64 a)).setCell ⟨g7,2,none⟩ (.slice A8_ xs8.length c8_)) ?hg ?ho ?hn ?hr ?_;(case ho=>rfl);(case hg=>rfl);(case hn=>rfl);(case hr=>first|(go_simp;done)|(go_simp;rfl));intro ws_ hw_;subst hw_;have HBN:=La (show Blk w _ g7 #[.int .i64 c,.int .i64 a,.slice A8_ xs8.length c8_] from HB7.out.set3 (.int .i64 c) (.int .i64 a) (.slice A8_ xs8.length c8_));have mb0_:=La (Blk.far3 HZ2.out HNg2_g7.out (.int .i64 c) (.int .i64 a) (.slice A8_ xs8.length c8_));have mb1_:=La (Blk.far3 HZ3.out HNg3_g7.out (.int .i64 c) (.int .i64 a) (.slice A8_ xs8.length c8_));have mb2_:=La (Blk.far3 HB6.out HNg6_g7.out (.int .i64 c) (.int .i64 a) (.slice A8_ xs8.length c8_));have mr0_:=La (R_set3 HR6.out HB7.out (.int .i64 c) (.int .i64 a) (.slice A8_ xs8.length c8_));have mr1_:=La (R_set3 HR8.out HB7.out (.int .i64 c) (.int .i64 a) (.slice A8_ xs8.length c8_));have mc_:=La (CurQ.set3 HC.out HB7.out HW.out (.int .i64 c) (.int .i64 a) (.slice A8_ xs8.length c8_));clear HZ2 HZ3 HB6 HR6 HR8 HC HB7 HR7 hz07_ hz17_ hz27_ hf07_ hf17_ hf27_;revert HBN mb0_ mb1_ mb2_ mr0_ mr1_ mc_;generalize (((wc_.setCell ⟨g7,0,none⟩ (.int .i64 c)).setCell ⟨g7,1,none⟩ (.int .i64 a)).setCell ⟨g7,2,none⟩ (.slice A8_ xs8.length c8_))=ww_;intro HBN HZ2 HZ3 HB6 HR6 HR8 HC;have HB7:=HBN;clear HBN;obtain⟨ww3_,hww_⟩:∃ x_,x_=ww_:=⟨_,rfl⟩;subst hww_)|((with_reducible refine gate_store (t:=22) (p:=93) rfl ?_);refine store_event (t:=22) (p:=93) (v:=?vo9x_) (w1:=(wc_.setCell ⟨g7,2,none⟩ (.slice A9_ (xs7.length - 1) (c7_ - 1)))) ?hg ?ho ?hn ?hr ?_;(case ho=>rfl);(case hg=>rfl);(case hn=>rfl);(case hr=>first|(go_simp;done)|(go_simp;rfl));intro ws_ hw_;subst hw_;have m0_:=La (Blk.far (p:=⟨g7,2,none⟩) HB6.out HNg6_g7.out (.slice A9_ (xs7.length - 1) (c7_ - 1)));have m1_:=La (Lg (Kd.V_far (p:=⟨g7,2,none⟩) HV9.out (fun _ hk=>hk.2) (.slice A9_ (xs7.length - 1) (c7_ - 1))) (fun _ hk=>hk.1));have m2_:=La (Blk.far (p:=⟨g7,2,none⟩) HZ2.out HNg2_g7.out (.slice A9_ (xs7.length - 1) (c7_ - 1)));have m3_:=La (Blk.far (p:=⟨g7,2,none⟩) HZ3.out HNg3_g7.out (.slice A9_ (xs7.length - 1) (c7_ - 1)));have m4_:=La (show Blk w _ g7 #[.int .i64 a,.int .i64 c,.slice A9_ (xs7.length - 1) (c7_ - 1)] from HB7.out.put 2 (.slice A9_ (xs7.length - 1) (c7_ - 1)));have m5_:=La (R_setB (j:=2) HR6.out HB7.out (.slice A9_ (xs7.length - 1) (c7_ - 1)));have m6_:=La (CurQ.setB HC.out HB7.out 2 (.slice A9_ (xs7.length - 1) (c7_ - 1)) HW.out);clear HB6 HB7 HZ2 HZ3 HR6 HR7 HC HV9 hz07_ hz17_ hz27_ hf07_ hf17_ hf27_;revert m0_ m1_ m2_ m3_ m4_ m5_ m6_;generalize (wc_.setCell ⟨g7,2,none⟩ (.slice A9_ (xs7.length - 1) (c7_ - 1)))=ww2_;intro HB6 HV7 HZ2 HZ3 HB7 HR6 HC))
  ·have mb0_:=La (Blk.drew_ HZ2.out);have mb1_:=La (Blk.drew_ HZ3.out);have mb2_:=La (Blk.drew_ HB6.out);have mb3_:=La (Blk.drew_ HB7.out);have mr0_:=La (Ld HR6.out);have mr1_:=La (Ld HR7.out);have mc_:=La (CurQ.drew HC.out);clear HC;have HC:=mc_;clear mc_;clear HZ2;have HZ2:=mb0_;clear mb0_;clear HZ3;have HZ3:=mb1_;clear mb1_;clear HB6;have HB6:=mb2_;clear mb2_;clear HB7;have HB7:=mb3_;clear mb3_;clear HR6;have HR6:=mr0_;clear mr0_;clear HR7;have HR7:=mr1_;clear mr1_
   refine start_ (n:=9) (S:=fun w'=>w'.cell? ⟨g7,0,none⟩=some (.int .i64 a)∧w'.cell? ⟨g7,1,none⟩=some (.int .i64 c)∧w'.cell? ⟨g7,2,none⟩=some (.slice A7_ xs7.length c7_)) (ds:=[8]) #[false,false,false,false,false,false,false,false,false] (by kernel_rfl) rfl rfl ⟨(Lc HB7.out.2 0).trans rfl,(Lc HB7.out.2 1).trans rfl,(Lc HB7.out.2 2).trans rfl⟩ (fun hHeld=>?_);refine with_tabW spec_l14DrawTwo.tab19 spec_l14DrawTwo.bits19 (fun HT_ HW_=>?_)
   refine pure_ (i:=0) (N:=some 72) (v:=?_) (a':=?_) #[true,false,false,false,false,false,false,false,false] rfl rfl (any_of HT_.out (by kernel_rfl)) (fun _ _ _ h=>h) (Or.inl ⟨by rfl,?_⟩) ?_ ?_
   rotate_left
   ·intro w'
    go_simp
    with_reducible rfl
   rotate_left
   ·simp only [Act.put,List.setIfInBounds_toArray,List.set_cons_zero,List.set_cons_succ,i64_w,i32_w]
    rfl
   refine pure_ (i:=3) (N:=some 75) (v:=?_) (a':=?_) #[true,false,false,true,false,false,false,false,false] rfl rfl (any_of HT_.out (by kernel_rfl)) (fun _ _ _ h=>h) (Or.inl ⟨by rfl,?_⟩) ?_ ?_
   rotate_left
   ·intro w'
    go_simp
    with_reducible rfl
   rotate_left
   ·simp only [Act.put,List.setIfInBounds_toArray,List.set_cons_zero,List.set_cons_succ,i64_w,i32_w]
    rfl
   refine take_ (i:=1) (N:=some 73) (v:=?_) (a':=?_) #[true,true,false,true,false,false,false,false,false] rfl rfl (take_ofW HT_.out HW_.out (by kernel_rfl)) (fun _ _ _ h=>h) (Or.inl ⟨by rfl,?_⟩) hHeld ?_ ?_
   rotate_left
   ·rintro w' ⟨s0,s1,s2⟩
    go_simp
    with_reducible rfl
   rotate_left
   ·simp only [Act.put,List.setIfInBounds_toArray,List.set_cons_zero,List.set_cons_succ,i64_w,i32_w]
    rfl
   refine join_ (σ:=Value × Addr × Int) 4 #[true,true,true,true,true,false,false,false,false] (fun s_=>[(74,s_.1),(76,.int .i64 s_.2.2)]) (fun (s_:Value × Addr × Int) w'=>(w'.cell? ⟨g7,0,none⟩=some (.int .i64 a)∧w'.cell? ⟨g7,1,none⟩=some (.int .i64 c)∧w'.cell? ⟨g7,2,none⟩=some (.slice A7_ xs7.length c7_))∧TwoQ w0 w w' b g g2 g3 g6 g7 n a c A6_ c6_ xs6 A7_ c7_ xs7∧Kd.R (Kd.int .i64) 2 w' w0.heap.size (fun k=>w.heap.size≤k) s_.1 [(-1),256,4611686018427387904]∧(∃ c_,s_.1=.slice (some s_.2.1) 3 c_)∧(0≤s_.2.2∧s_.2.2 < 3)) ?_ ?_
   rotate_left
   ·intro hCont
    refine two_ (i:=2) (j:=4) (Ni:=some 74) (Nj:=some 76) #[true,true,true,true,false,false,false,false,false] #[true,true,false,true,true,false,false,false,false] rfl rfl rfl rfl (two_of HT_.out (by kernel_rfl)) (by decide) (by decide) (fun K hK=>?_) (fun K hK=>?_)
    ·refine Kd.R_lit_step (Kd.int .i64) _ 2 ?hg1 (N:=74) ?hd1 (xs:=([(-1),256,4611686018427387904]:List Int)) (inner:=[.int .i64 (-1),.int .i64 256,.int .i64 4611686018427387904]) (ok:=fun k_=>w.heap.size≤k_) (okp:=fun k_=>w.heap.size≤k_) ?hr1 ?hp1 (fun _ hk=>hk) (cur_size HC.out) (Below.refl _ _) (Nat.le_refl _) (by simp) ?_;(case hd1=>rfl);(case hg1=>rfl);(case hr1=>first|(go_simp;done)|(go_simp;rfl));(case hp1=>exact lit_i _);intro vl_ wl_ hol_ hb_ hg_ hnew_;clear hg_ hnew_;have HRL:=La (Kd.R_lower hol_ (Below.size (cur_blw HC.out)));clear hol_;have mb0_:=La (Blk.below (by repeat(first|(with_reducible first|exact HZ2.out|apply Blk.alloc|apply Blk.drewN)|exact HZ2.out)) hb_);have mb1_:=La (Blk.below (by repeat(first|(with_reducible first|exact HZ3.out|apply Blk.alloc|apply Blk.drewN)|exact HZ3.out)) hb_);have mb2_:=La (Blk.below (by repeat(first|(with_reducible first|exact HB6.out|apply Blk.alloc|apply Blk.drewN)|exact HB6.out)) hb_);have mb3_:=La (Blk.below (by repeat(first|(with_reducible first|exact HB7.out|apply Blk.alloc|apply Blk.drewN)|exact HB7.out)) hb_);have mr0_:=La (Kd.R_below (by(with_reducible repeat(first|apply Le|apply Lf|apply Ld));exact HR6.out) hb_);have mr1_:=La (Kd.R_below (by(with_reducible repeat(first|apply Le|apply Lf|apply Ld));exact HR7.out) hb_);have mc_:=La (CurQ.below (by repeat(first|(with_reducible first|exact HC.out|apply CurQ.alloc|apply CurQ.drewN)|exact HC.out)) hb_);clear HC;have HC:=mc_;clear mc_;clear HZ2;have HZ2:=mb0_;clear mb0_;clear HZ3;have HZ3:=mb1_;clear mb1_;clear HB6;have HB6:=mb2_;clear mb2_;clear HB7;have HB7:=mb3_;clear mb3_;clear HR6;have HR6:=mr0_;clear mr0_;clear HR7;have HR7:=mr1_;clear mr1_;clear hb_;obtain⟨Al_,cl_,el_⟩:=Kd.R_slice HRL.out;subst el_;obtain⟨adl_,fol_,_⟩:=Kd.at_int (Kd.R_reads' HRL.out).2.2 0 (by decide) (by simp);cases fol_
     refine hK.out _ _ ⟨(Lc HB7.out.2 0).trans rfl,(Lc HB7.out.2 1).trans rfl,(Lc HB7.out.2 2).trans rfl⟩ (fun hHeld=>?_)
     clear hK K
     refine norm_ (a':=?_) ?_ ?_
     rotate_left
     ·show Act.put _ (some 74) _=_
      simp only [Act.put,List.setIfInBounds_toArray,List.set_cons_zero,List.set_cons_succ,i64_w,i32_w]
      rfl
     refine one_ (i:=4) (N:=some 76) #[true,true,true,true,true,false,false,false,false] rfl rfl (one_of HT_.out (by kernel_rfl)) (by decide) (fun K hK=>?_)
     refine goes_ Try.func65 (by kernel_rfl) rfl #[.pointer (some ⟨g,0,none⟩),.int .i64 3] (by rfl) rfl rfl (by(try simp only [List.map_toArray,List.map_cons,List.map_nil]);first|done|rfl) ?_
     with_reducible refine(cur_below (w0:=w0) (w:=w) (b:=b) 3 HC.out).mono ?_
     rintro e wc_ ⟨r3_,rfl,h3_,hc_⟩
     refine⟨_,rfl,?_⟩
     have HR3:=La h3_
     clear h3_
     have mb0_:=La (Blk.cur (by repeat(first|(with_reducible first|exact HZ2.out|apply Blk.alloc|apply Blk.drewN)|exact HZ2.out)) (by repeat(first|(with_reducible first|exact HC.out|apply CurQ.alloc|apply CurQ.drewN)|exact HC.out)) hc_);have mb1_:=La (Blk.cur (by repeat(first|(with_reducible first|exact HZ3.out|apply Blk.alloc|apply Blk.drewN)|exact HZ3.out)) (by repeat(first|(with_reducible first|exact HC.out|apply CurQ.alloc|apply CurQ.drewN)|exact HC.out)) hc_);have mb2_:=La (Blk.cur (by repeat(first|(with_reducible first|exact HB6.out|apply Blk.alloc|apply Blk.drewN)|exact HB6.out)) (by repeat(first|(with_reducible first|exact HC.out|apply CurQ.alloc|apply CurQ.drewN)|exact HC.out)) hc_);have mb3_:=La (Blk.cur (by repeat(first|(with_reducible first|exact HB7.out|apply Blk.alloc|apply Blk.drewN)|exact HB7.out)) (by repeat(first|(with_reducible first|exact HC.out|apply CurQ.alloc|apply CurQ.drewN)|exact HC.out)) hc_);have mr0_:=La (R_curI (e:=2) (d:=Kd.int .i64) (by decide) (by(with_reducible repeat(first|apply Le|apply Lf|apply Ld));exact HR6.out) (by repeat(first|(with_reducible first|exact HC.out|apply CurQ.alloc|apply CurQ.drewN)|exact HC.out)) hc_);have mr1_:=La (R_curI (e:=2) (d:=Kd.int .i64) (by decide) (by(with_reducible repeat(first|apply Le|apply Lf|apply Ld));exact HR7.out) (by repeat(first|(with_reducible first|exact HC.out|apply CurQ.alloc|apply CurQ.drewN)|exact HC.out)) hc_);have mr2_:=La (R_curI (e:=2) (d:=Kd.int .i64) (by decide) (by(with_reducible repeat(first|apply Le|apply Lf|apply Ld));exact HRL.out) (by repeat(first|(with_reducible first|exact HC.out|apply CurQ.alloc|apply CurQ.drewN)|exact HC.out)) hc_);have mc_:=La (CurQ.trans (by repeat(first|(with_reducible first|exact HC.out|apply CurQ.alloc|apply CurQ.drewN)|exact HC.out)) hc_);clear HC;have HC:=mc_;clear mc_;clear HZ2;have HZ2:=mb0_;clear mb0_;clear HZ3;have HZ3:=mb1_;clear mb1_;clear HB6;have HB6:=mb2_;clear mb2_;clear HB7;have HB7:=mb3_;clear mb3_;clear HR6;have HR6:=mr0_;clear mr0_;clear HR7;have HR7:=mr1_;clear mr1_;clear HRL;have HRL:=mr2_;clear mr2_;clear hc_
     refine hK.out _ _ ⟨(Lc HB7.out.2 0).trans rfl,(Lc HB7.out.2 1).trans rfl,(Lc HB7.out.2 2).trans rfl⟩ (fun hHeld=>?_)
     clear hK K
     refine norm_ (a':=?_) ?_ ?_
     rotate_left
     ·show Act.put _ (some 76) _=_
      simp only [Act.put,List.setIfInBounds_toArray,List.set_cons_zero,List.set_cons_succ,i64_w,i32_w]
      rfl
     exact norm_ (by simp only [putAll,Act.put,List.setIfInBounds_toArray,List.set_cons_zero,List.set_cons_succ] <;> rfl) (hCont (.slice (some adl_) 3 cl_,adl_,r3_) _ ⟨hHeld,⟨HL7.out,HZ2.out,HZ3.out,HB6.out,HB7.out,HR6.out,HR7.out,HC.out⟩,HRL.out,⟨_,rfl⟩,HR3.out.1,HR3.out.2 (by decide)⟩)
    ·refine goes_ Try.func65 (by kernel_rfl) rfl #[.pointer (some ⟨g,0,none⟩),.int .i64 3] (by rfl) rfl rfl (by(try simp only [List.map_toArray,List.map_cons,List.map_nil]);first|done|rfl) ?_
     with_reducible refine(cur_below (w0:=w0) (w:=w) (b:=b) 3 HC.out).mono ?_
     rintro e wc_ ⟨r3_,rfl,h3_,hc_⟩
     refine⟨_,rfl,?_⟩
     have HR3:=La h3_
     clear h3_
     have mb0_:=La (Blk.cur (by repeat(first|(with_reducible first|exact HZ2.out|apply Blk.alloc|apply Blk.drewN)|exact HZ2.out)) (by repeat(first|(with_reducible first|exact HC.out|apply CurQ.alloc|apply CurQ.drewN)|exact HC.out)) hc_);have mb1_:=La (Blk.cur (by repeat(first|(with_reducible first|exact HZ3.out|apply Blk.alloc|apply Blk.drewN)|exact HZ3.out)) (by repeat(first|(with_reducible first|exact HC.out|apply CurQ.alloc|apply CurQ.drewN)|exact HC.out)) hc_);have mb2_:=La (Blk.cur (by repeat(first|(with_reducible first|exact HB6.out|apply Blk.alloc|apply Blk.drewN)|exact HB6.out)) (by repeat(first|(with_reducible first|exact HC.out|apply CurQ.alloc|apply CurQ.drewN)|exact HC.out)) hc_);have mb3_:=La (Blk.cur (by repeat(first|(with_reducible first|exact HB7.out|apply Blk.alloc|apply Blk.drewN)|exact HB7.out)) (by repeat(first|(with_reducible first|exact HC.out|apply CurQ.alloc|apply CurQ.drewN)|exact HC.out)) hc_);have mr0_:=La (R_curI (e:=2) (d:=Kd.int .i64) (by decide) (by(with_reducible repeat(first|apply Le|apply Lf|apply Ld));exact HR6.out) (by repeat(first|(with_reducible first|exact HC.out|apply CurQ.alloc|apply CurQ.drewN)|exact HC.out)) hc_);have mr1_:=La (R_curI (e:=2) (d:=Kd.int .i64) (by decide) (by(with_reducible repeat(first|apply Le|apply Lf|apply Ld));exact HR7.out) (by repeat(first|(with_reducible first|exact HC.out|apply CurQ.alloc|apply CurQ.drewN)|exact HC.out)) hc_);have mc_:=La (CurQ.trans (by repeat(first|(with_reducible first|exact HC.out|apply CurQ.alloc|apply CurQ.drewN)|exact HC.out)) hc_);clear HC;have HC:=mc_;clear mc_;clear HZ2;have HZ2:=mb0_;clear mb0_;clear HZ3;have HZ3:=mb1_;clear mb1_;clear HB6;have HB6:=mb2_;clear mb2_;clear HB7;have HB7:=mb3_;clear mb3_;clear HR6;have HR6:=mr0_;clear mr0_;clear HR7;have HR7:=mr1_;clear mr1_;clear hc_
     refine hK.out _ _ ⟨(Lc HB7.out.2 0).trans rfl,(Lc HB7.out.2 1).trans rfl,(Lc HB7.out.2 2).trans rfl⟩ (fun hHeld=>?_)
     clear hK K
     refine norm_ (a':=?_) ?_ ?_
     rotate_left
     ·show Act.put _ (some 76) _=_
      simp only [Act.put,List.setIfInBounds_toArray,List.set_cons_zero,List.set_cons_succ,i64_w,i32_w]
      rfl
     refine one_ (i:=2) (N:=some 74) #[true,true,true,true,true,false,false,false,false] rfl rfl (one_of HT_.out (by kernel_rfl)) (by decide) (fun K hK=>?_)
     refine Kd.R_lit_step (Kd.int .i64) _ 2 ?hg2 (N:=74) ?hd2 (xs:=([(-1),256,4611686018427387904]:List Int)) (inner:=[.int .i64 (-1),.int .i64 256,.int .i64 4611686018427387904]) (ok:=fun k_=>w.heap.size≤k_) (okp:=fun k_=>w.heap.size≤k_) ?hr2 ?hp2 (fun _ hk=>hk) (cur_size HC.out) (Below.refl _ _) (Nat.le_refl _) (by simp) ?_;(case hd2=>rfl);(case hg2=>rfl);(case hr2=>first|(go_simp;done)|(go_simp;rfl));(case hp2=>exact lit_i _);intro vl_ wl_ hol_ hb_ hg_ hnew_;clear hg_ hnew_;have HRL:=La (Kd.R_lower hol_ (Below.size (cur_blw HC.out)));clear hol_;have mb0_:=La (Blk.below (by repeat(first|(with_reducible first|exact HZ2.out|apply Blk.alloc|apply Blk.drewN)|exact HZ2.out)) hb_);have mb1_:=La (Blk.below (by repeat(first|(with_reducible first|exact HZ3.out|apply Blk.alloc|apply Blk.drewN)|exact HZ3.out)) hb_);have mb2_:=La (Blk.below (by repeat(first|(with_reducible first|exact HB6.out|apply Blk.alloc|apply Blk.drewN)|exact HB6.out)) hb_);have mb3_:=La (Blk.below (by repeat(first|(with_reducible first|exact HB7.out|apply Blk.alloc|apply Blk.drewN)|exact HB7.out)) hb_);have mr0_:=La (Kd.R_below (by(with_reducible repeat(first|apply Le|apply Lf|apply Ld));exact HR6.out) hb_);have mr1_:=La (Kd.R_below (by(with_reducible repeat(first|apply Le|apply Lf|apply Ld));exact HR7.out) hb_);have mc_:=La (CurQ.below (by repeat(first|(with_reducible first|exact HC.out|apply CurQ.alloc|apply CurQ.drewN)|exact HC.out)) hb_);clear HC;have HC:=mc_;clear mc_;clear HZ2;have HZ2:=mb0_;clear mb0_;clear HZ3;have HZ3:=mb1_;clear mb1_;clear HB6;have HB6:=mb2_;clear mb2_;clear HB7;have HB7:=mb3_;clear mb3_;clear HR6;have HR6:=mr0_;clear mr0_;clear HR7;have HR7:=mr1_;clear mr1_;clear hb_;obtain⟨Al_,cl_,el_⟩:=Kd.R_slice HRL.out;subst el_;obtain⟨adl_,fol_,_⟩:=Kd.at_int (Kd.R_reads' HRL.out).2.2 0 (by decide) (by simp);cases fol_
     refine hK.out _ _ ⟨(Lc HB7.out.2 0).trans rfl,(Lc HB7.out.2 1).trans rfl,(Lc HB7.out.2 2).trans rfl⟩ (fun hHeld=>?_)
     clear hK K
     refine norm_ (a':=?_) ?_ ?_
     rotate_left
     ·show Act.put _ (some 74) _=_
      simp only [Act.put,List.setIfInBounds_toArray,List.set_cons_zero,List.set_cons_succ,i64_w,i32_w]
      rfl
     exact norm_ (by simp only [putAll,Act.put,List.setIfInBounds_toArray,List.set_cons_zero,List.set_cons_succ] <;> rfl) (hCont (.slice (some adl_) 3 cl_,adl_,r3_) _ ⟨hHeld,⟨HL7.out,HZ2.out,HZ3.out,HB6.out,HB7.out,HR6.out,HR7.out,HC.out⟩,HRL.out,⟨_,rfl⟩,HR3.out.1,HR3.out.2 (by decide)⟩)
   clear HZ2 HZ3 HB6 HB7 HR6 HR7 HC hHeld
   rintro⟨vl_,adl_,r3_⟩ w85 ⟨hHeld,hTwo,hRL_,⟨cl_,el_⟩,h30_,h31_⟩
   dsimp only at hRL_ el_ h30_ h31_
   subst el_
   have HRL:=La hRL_
   clear hRL_
   obtain⟨hl7_,z2_,z3_,b6_,b7_,r6_,r7_,cu_⟩:=hTwo
   have HZ2:=La z2_
   have HZ3:=La z3_
   have HB6:=La b6_
   have HB7:=La b7_
   have HR6:=La r6_
   have HR7:=La r7_
   have HC:=La cu_
   clear z2_ z3_ b6_ b7_ r6_ r7_ cu_ hl7_
   obtain⟨go_,cg_,eg_,_,_,csg_,HG_⟩:=Kd.R_form HR7.out (by have h_:=HL7.out;omega)
   injection eg_ with ea_ en_ ec_
   subst ea_
   subst ec_
   clear en_
   have HGG:=La HG_
   clear HG_
   have hgle_:=La (show w.heap.size≤go_ from HR7.out.1 go_ rfl)
   obtain⟨adx_,elx_,hxl_⟩:=Kd.at_int (Kd.R_reads' HRL.out).2.2 r3_ h30_ (by simpa using h31_)
   obtain rfl:adl_=adx_:=(by injection elx_)
   clear elx_
   obtain⟨hx7_,hf7_⟩:=Kd.R_celln 0 HR7.out (0:Int) (by omega) (by have h_:=HL7.out;omega)
   simp only [Int.toNat_zero] at hx7_ hf7_
   have p3_:(0≤r3_)=True:=eq_true h30_
   have q3_:(r3_ < 3)=True:=eq_true h31_
   have q7_:(0 < xs7.length)=True:=eq_true (by have h_:=HL7.out;omega)
   obtain⟨x3_,hx3_⟩:∃ x_,rd [(-1),256,4611686018427387904] r3_=x_:=⟨_,rfl⟩
   rw [hx3_] at hxl_
   refine norm_ (a':=?_) ?_ ?_
   rotate_left
   ·simp only [putAll,Act.put,List.setIfInBounds_toArray,List.set_cons_zero,List.set_cons_succ]
    rfl
   refine pure_ (i:=5) (N:=some 77) (v:=?_) (a':=?_) #[true,true,true,true,true,true,false,false,false] rfl rfl (any_of HT_.out (by kernel_rfl)) (fun _ _ _ h=>h) (Or.inl ⟨by rfl,?_⟩) ?_ ?_
   rotate_left
   ·intro w'
    go_simp
    with_reducible rfl
   rotate_left
   ·simp only [Act.put,List.setIfInBounds_toArray,List.set_cons_zero,List.set_cons_succ,i64_w,i32_w]
    rfl
   refine one_ (i:=6) (N:=some 78) #[true,true,true,true,true,true,true,false,false] rfl rfl (one_of HT_.out (by kernel_rfl)) (by decide) (fun K hK=>?_)
   refine value_ (w1:=?_) (v:=?_) (by rfl) rfl ?_ ?_
   rotate_left 2
   ·go_simp
    constructor
    ·rfl
    ·rfl
   refine hK.out _ _ ⟨(Lc HB7.out.2 0).trans rfl,(Lc HB7.out.2 1).trans rfl,(Lc HB7.out.2 2).trans rfl⟩ (fun hHeld=>?_)
   clear hK K
   refine norm_ (a':=?_) ?_ ?_
   rotate_left
   ·show Act.put _ (some 78) _=_
    simp only [Act.put,List.setIfInBounds_toArray,List.set_cons_zero,List.set_cons_succ,i64_w,i32_w]
    rfl
   refine pure_ (i:=7) (N:=some 79) (v:=?_) (a':=?_) #[true,true,true,true,true,true,true,true,false] rfl rfl (any_of HT_.out (by kernel_rfl)) (fun _ _ _ h=>h) (Or.inl ⟨by rfl,?_⟩) ?_ ?_
   rotate_left
   ·intro w'
    go_simp
    with_reducible rfl
   rotate_left
   ·simp only [Act.put,List.setIfInBounds_toArray,List.set_cons_zero,List.set_cons_succ,i64_w,i32_w]
    rfl
   refine last_ (i:=8) (N:=none) #[true,true,true,true,true,true,true,true,true] rfl rfl (one_of HT_.out (by kernel_rfl)) (by decide) (fun K hK=>?_)
   refine skip_ (w1:=?_) (by rfl) rfl ?_ ?_
   rotate_left
   ·go_simp
    rfl
   refine hK.out _ _ ?_
   clear hK K
   refine done_ (done_of HT_.out (by kernel_rfl)) ?_
   clear hHeld HT_ HW_
   have m0_:=La (Blk.far (p:=⟨go_,0,none⟩) HZ2.out (own_ne_ (Kd.R_ne HR7.out HZ2.out.2 (by decide))) (.int .i64 x3_))
   have m1_:=La (Blk.far (p:=⟨go_,0,none⟩) HZ3.out (own_ne_ (Kd.R_ne HR7.out HZ3.out.2 (by decide))) (.int .i64 x3_))
   have m2_:=La (Blk.far (p:=⟨go_,0,none⟩) HB6.out (own_ne_ (Kd.R_ne HR7.out HB6.out.2 (by decide))) (.int .i64 x3_))
   have m3_:=La (Blk.far (p:=⟨go_,0,none⟩) HB7.out (own_ne_ (Kd.R_ne HR7.out HB7.out.2 (by decide))) (.int .i64 x3_))
   have m4_:=La (Kd.R_far (p:=⟨go_,0,none⟩) HR6.out (fun k_ hk_ e_=>hk_.2 (by rw [e_];rfl)) (.int .i64 x3_))
   have m5_:=Kd.R_putn HR7.out (0:Int) x3_
   simp only [Int.toNat_zero] at m5_
   replace m5_:=La m5_
   have m6_:=La (CurQ.setR HC.out HGG.out hgle_.out 0 (.int .i64 x3_) HW.out)
   clear HZ2 HZ3 HB6 HB7 HR6 HR7 HC HRL HGG hxl_ hx7_ hf7_ hx3_
   revert m0_ m1_ m2_ m3_ m4_ m5_ m6_
   generalize w85.setCell ⟨go_,0,none⟩ (.int .i64 x3_)=w86
   intro HZ2 HZ3 HB6 HB7 HR6 HR7 HC
   go_wp2
   have hf06_:=Lb HB6.out.2 0
   have hz06_:w86.cell? ⟨g6,0,none⟩=some (.int .i64 a):=(Lc HB6.out.2 0).trans rfl
   have hf16_:=Lb HB6.out.2 1
   have hz16_:w86.cell? ⟨g6,1,none⟩=some (.int .i64 c):=(Lc HB6.out.2 1).trans rfl
   have hf26_:=Lb HB6.out.2 2
   have hz26_:w86.cell? ⟨g6,2,none⟩=some (.slice A6_ xs6.length c6_):=(Lc HB6.out.2 2).trans rfl
   have hf07_:=Lb HB7.out.2 0
   have hz07_:w86.cell? ⟨g7,0,none⟩=some (.int .i64 a):=(Lc HB7.out.2 0).trans rfl
   have hf17_:=Lb HB7.out.2 1
   have hz17_:w86.cell? ⟨g7,1,none⟩=some (.int .i64 c):=(Lc HB7.out.2 1).trans rfl
   have hf27_:=Lb HB7.out.2 2
   have hz27_:w86.cell? ⟨g7,2,none⟩=some (.slice (some ⟨go_,0,none⟩) xs7.length c7_):=(Lc HB7.out.2 2).trans rfl
   have hf0a_:=Lb HZ2.out.2 0
   have hz0a_:w86.cell? ⟨g2,0,none⟩=some (.int .i64 0):=(Lc HZ2.out.2 0).trans rfl
   have hf1a_:=Lb HZ2.out.2 1
   have hz1a_:w86.cell? ⟨g2,1,none⟩=some (.int .i64 0):=(Lc HZ2.out.2 1).trans rfl
   have hf2a_:=Lb HZ2.out.2 2
   have hz2a_:w86.cell? ⟨g2,2,none⟩=some (.slice none 0 0):=(Lc HZ2.out.2 2).trans rfl
   have hf0b_:=Lb HZ3.out.2 0
   have hz0b_:w86.cell? ⟨g3,0,none⟩=some (.int .i64 0):=(Lc HZ3.out.2 0).trans rfl
   have hf1b_:=Lb HZ3.out.2 1
   have hz1b_:w86.cell? ⟨g3,1,none⟩=some (.int .i64 0):=(Lc HZ3.out.2 1).trans rfl
   have hf2b_:=Lb HZ3.out.2 2
   have hz2b_:w86.cell? ⟨g3,2,none⟩=some (.slice none 0 0):=(Lc HZ3.out.2 2).trans rfl
   have HV6:=La (R_okx (Li HR6.out (fun _ hk=>hk.1)) HZ2.out HZ3.out)
   have HV7:=La (R_okx HR7.out HZ2.out HZ3.out)
   have hn23_:=HNg2_g3.out
   have hn32_:=HNg2_g3.out.symm
   have hn26_:=HNg2_g6.out
   have hn62_:=HNg2_g6.out.symm
   have hn27_:=HNg2_g7.out
   have hn72_:=HNg2_g7.out.symm
   have hn36_:=HNg3_g6.out
   have hn63_:=HNg3_g6.out.symm
   have hn37_:=HNg3_g7.out
   have hn73_:=HNg3_g7.out.symm
   go_region_held3 (fun w'=>(w'.cell? ⟨g6,0,none⟩=some (.int .i64 a)∧w'.cell? ⟨g6,1,none⟩=some (.int .i64 c)∧w'.cell? ⟨g6,2,none⟩=some (.slice A6_ xs6.length c6_))∧(w'.cell? ⟨g7,0,none⟩=some (.int .i64 a)∧w'.cell? ⟨g7,1,none⟩=some (.int .i64 c)∧w'.cell? ⟨g7,2,none⟩=some (.slice (some ⟨go_,0,none⟩) xs7.length c7_))) (go_keep) (fail)
   all_goals go_wp2
   all_goals (((try simp only [Exit.inBlock,Exit.then]));first|(refine bodyPost_ret (results_cc rfl _ _ g2 g3 27 27 #[.int .i64 a,.int .i64 c,.slice A6_ xs6.length c6_] #[.int .i64 a,.int .i64 c,.slice (some ⟨go_,0,none⟩) xs7.length c7_] (0,0) (0,0) _ _ rfl (Blk.drew (Blk.far3 (HZ2.out.set3 (.int .i64 a) (.int .i64 c) (.slice A6_ xs6.length c6_)) HNg2_g3.out (.int .i64 a) (.int .i64 c) (.slice (some ⟨go_,0,none⟩) xs7.length c7_))).2 Try.underlying27 rfl (by kernel_rfl) rfl (Blk.drew (Blk.set3 (HZ3.out.far3 HNg2_g3.out.symm (.int .i64 a) (.int .i64 c) (.slice A6_ xs6.length c6_)) (.int .i64 a) (.int .i64 c) (.slice (some ⟨go_,0,none⟩) xs7.length c7_))).2 Try.underlying27 rfl (by kernel_rfl)) rfl ?_;exact⟨_,_,_,_,_,_,_,_,rfl,Lg (Lh (V_set3 (V_set3 HV6.out (fun _ hk=>hk.1.2) (.int .i64 a) (.int .i64 c) (.slice A6_ xs6.length c6_)) (fun _ hk=>hk.2) (.int .i64 a) (.int .i64 c) (.slice (some ⟨go_,0,none⟩) xs7.length c7_))) (fun _ hk=>hk.1.1),Lg (Lh (V_set3 (V_set3 HV7.out (fun _ hk=>hk.1.2) (.int .i64 a) (.int .i64 c) (.slice A6_ xs6.length c6_)) (fun _ hk=>hk.2) (.int .i64 a) (.int .i64 c) (.slice (some ⟨go_,0,none⟩) xs7.length c7_))) (fun _ hk=>hk.1.1),(by have h6_:=HL6.out;omega),(by first|(have h7_:=HL7.out;omega)|(have h7_:=HL7.out;simp only [List.length_set,List.length_drop];omega)|(have h8_:=HL8.out;omega)),(CurQ.drew (CurQ.set3 (CurQ.set3 HC.out HZ2.out HW.out (.int .i64 a) (.int .i64 c) (.slice A6_ xs6.length c6_)) (HZ3.out.far3 HNg2_g3.out.symm (.int .i64 a) (.int .i64 c) (.slice A6_ xs6.length c6_)) HW.out (.int .i64 a) (.int .i64 c) (.slice (some ⟨go_,0,none⟩) xs7.length c7_)))⟩)|(refine bodyPost_ret (results_cc rfl _ _ g2 g3 27 27 #[.int .i64 a,.int .i64 c,.slice A6_ xs6.length c6_] #[.int .i64 a,.int .i64 c,.slice (some ⟨go_,0,none⟩) xs7.length c7_] (0,0) (0,0) _ _ rfl (Blk.drew (Blk.set3 (HZ2.out.far3 HNg2_g3.out (.int .i64 a) (.int .i64 c) (.slice (some ⟨go_,0,none⟩) xs7.length c7_)) (.int .i64 a) (.int .i64 c) (.slice A6_ xs6.length c6_))).2 Try.underlying27 rfl (by kernel_rfl) rfl (Blk.drew (Blk.far3 (HZ3.out.set3 (.int .i64 a) (.int .i64 c) (.slice (some ⟨go_,0,none⟩) xs7.length c7_)) HNg2_g3.out.symm (.int .i64 a) (.int .i64 c) (.slice A6_ xs6.length c6_))).2 Try.underlying27 rfl (by kernel_rfl)) rfl ?_;exact⟨_,_,_,_,_,_,_,_,rfl,Lg (Lh (V_set3 (V_set3 HV6.out (fun _ hk=>hk.2) (.int .i64 a) (.int .i64 c) (.slice (some ⟨go_,0,none⟩) xs7.length c7_)) (fun _ hk=>hk.1.2) (.int .i64 a) (.int .i64 c) (.slice A6_ xs6.length c6_))) (fun _ hk=>hk.1.1),Lg (Lh (V_set3 (V_set3 HV7.out (fun _ hk=>hk.2) (.int .i64 a) (.int .i64 c) (.slice (some ⟨go_,0,none⟩) xs7.length c7_)) (fun _ hk=>hk.1.2) (.int .i64 a) (.int .i64 c) (.slice A6_ xs6.length c6_))) (fun _ hk=>hk.1.1),(by have h6_:=HL6.out;omega),(by first|(have h7_:=HL7.out;omega)|(have h7_:=HL7.out;simp only [List.length_set,List.length_drop];omega)|(have h8_:=HL8.out;omega)),(CurQ.drew (CurQ.set3 (CurQ.set3 HC.out HZ3.out HW.out (.int .i64 a) (.int .i64 c) (.slice (some ⟨go_,0,none⟩) xs7.length c7_)) (HZ2.out.far3 HNg2_g3.out (.int .i64 a) (.int .i64 c) (.slice (some ⟨go_,0,none⟩) xs7.length c7_)) HW.out (.int .i64 a) (.int .i64 c) (.slice A6_ xs6.length c6_)))⟩))
  ·have hf06_:=Lb HB6.out.2 0
   have hz06_:ww1_.cell? ⟨g6,0,none⟩=some (.int .i64 q5_):=(Lc HB6.out.2 0).trans rfl
   have hf16_:=Lb HB6.out.2 1
   have hz16_:ww1_.cell? ⟨g6,1,none⟩=some (.int .i64 c):=(Lc HB6.out.2 1).trans rfl
   have hf26_:=Lb HB6.out.2 2
   have hz26_:ww1_.cell? ⟨g6,2,none⟩=some (.slice A6_ xs6.length c6_):=(Lc HB6.out.2 2).trans rfl
   have hf07_:=Lb HB7.out.2 0
   have hz07_:ww1_.cell? ⟨g7,0,none⟩=some (.int .i64 a):=(Lc HB7.out.2 0).trans rfl
   have hf17_:=Lb HB7.out.2 1
   have hz17_:ww1_.cell? ⟨g7,1,none⟩=some (.int .i64 c):=(Lc HB7.out.2 1).trans rfl
   have hf27_:=Lb HB7.out.2 2
   have hz27_:ww1_.cell? ⟨g7,2,none⟩=some (.slice A7_ xs7.length c7_):=(Lc HB7.out.2 2).trans rfl
   have hf0a_:=Lb HZ2.out.2 0
   have hz0a_:ww1_.cell? ⟨g2,0,none⟩=some (.int .i64 0):=(Lc HZ2.out.2 0).trans rfl
   have hf1a_:=Lb HZ2.out.2 1
   have hz1a_:ww1_.cell? ⟨g2,1,none⟩=some (.int .i64 0):=(Lc HZ2.out.2 1).trans rfl
   have hf2a_:=Lb HZ2.out.2 2
   have hz2a_:ww1_.cell? ⟨g2,2,none⟩=some (.slice none 0 0):=(Lc HZ2.out.2 2).trans rfl
   have hf0b_:=Lb HZ3.out.2 0
   have hz0b_:ww1_.cell? ⟨g3,0,none⟩=some (.int .i64 0):=(Lc HZ3.out.2 0).trans rfl
   have hf1b_:=Lb HZ3.out.2 1
   have hz1b_:ww1_.cell? ⟨g3,1,none⟩=some (.int .i64 0):=(Lc HZ3.out.2 1).trans rfl
   have hf2b_:=Lb HZ3.out.2 2
   have hz2b_:ww1_.cell? ⟨g3,2,none⟩=some (.slice none 0 0):=(Lc HZ3.out.2 2).trans rfl
   have HV6:=La (R_okx (Li HR6.out (fun _ hk=>hk.1)) HZ2.out HZ3.out)
   have HV7:=La (R_okx HR7.out HZ2.out HZ3.out)
   have hn23_:=HNg2_g3.out
   have hn32_:=HNg2_g3.out.symm
   have hn26_:=HNg2_g6.out
   have hn62_:=HNg2_g6.out.symm
   have hn27_:=HNg2_g7.out
   have hn72_:=HNg2_g7.out.symm
   have hn36_:=HNg3_g6.out
   have hn63_:=HNg3_g6.out.symm
   have hn37_:=HNg3_g7.out
   have hn73_:=HNg3_g7.out.symm
   go_region_held3 (fun w'=>(w'.cell? ⟨g6,0,none⟩=some (.int .i64 q5_)∧w'.cell? ⟨g6,1,none⟩=some (.int .i64 c)∧w'.cell? ⟨g6,2,none⟩=some (.slice A6_ xs6.length c6_))∧(w'.cell? ⟨g7,0,none⟩=some (.int .i64 a)∧w'.cell? ⟨g7,1,none⟩=some (.int .i64 c)∧w'.cell? ⟨g7,2,none⟩=some (.slice A7_ xs7.length c7_))) (go_keep) (fail)
   all_goals go_wp2
   all_goals (((try simp only [Exit.inBlock,Exit.then]));first|(refine bodyPost_ret (results_cc rfl _ _ g2 g3 27 27 #[.int .i64 q5_,.int .i64 c,.slice A6_ xs6.length c6_] #[.int .i64 a,.int .i64 c,.slice A7_ xs7.length c7_] (0,0) (0,0) _ _ rfl (Blk.drew (Blk.far3 (HZ2.out.set3 (.int .i64 q5_) (.int .i64 c) (.slice A6_ xs6.length c6_)) HNg2_g3.out (.int .i64 a) (.int .i64 c) (.slice A7_ xs7.length c7_))).2 Try.underlying27 rfl (by kernel_rfl) rfl (Blk.drew (Blk.set3 (HZ3.out.far3 HNg2_g3.out.symm (.int .i64 q5_) (.int .i64 c) (.slice A6_ xs6.length c6_)) (.int .i64 a) (.int .i64 c) (.slice A7_ xs7.length c7_))).2 Try.underlying27 rfl (by kernel_rfl)) rfl ?_;exact⟨_,_,_,_,_,_,_,_,rfl,Lg (Lh (V_set3 (V_set3 HV6.out (fun _ hk=>hk.1.2) (.int .i64 q5_) (.int .i64 c) (.slice A6_ xs6.length c6_)) (fun _ hk=>hk.2) (.int .i64 a) (.int .i64 c) (.slice A7_ xs7.length c7_))) (fun _ hk=>hk.1.1),Lg (Lh (V_set3 (V_set3 HV7.out (fun _ hk=>hk.1.2) (.int .i64 q5_) (.int .i64 c) (.slice A6_ xs6.length c6_)) (fun _ hk=>hk.2) (.int .i64 a) (.int .i64 c) (.slice A7_ xs7.length c7_))) (fun _ hk=>hk.1.1),(by have h6_:=HL6.out;omega),(by first|(have h7_:=HL7.out;omega)|(have h7_:=HL7.out;simp only [List.length_set,List.length_drop];omega)|(have h8_:=HL8.out;omega)),(CurQ.drew (CurQ.set3 (CurQ.set3 HC.out HZ2.out HW.out (.int .i64 q5_) (.int .i64 c) (.slice A6_ xs6.length c6_)) (HZ3.out.far3 HNg2_g3.out.symm (.int .i64 q5_) (.int .i64 c) (.slice A6_ xs6.length c6_)) HW.out (.int .i64 a) (.int .i64 c) (.slice A7_ xs7.length c7_)))⟩)|(refine bodyPost_ret (results_cc rfl _ _ g2 g3 27 27 #[.int .i64 q5_,.int .i64 c,.slice A6_ xs6.length c6_] #[.int .i64 a,.int .i64 c,.slice A7_ xs7.length c7_] (0,0) (0,0) _ _ rfl (Blk.drew (Blk.set3 (HZ2.out.far3 HNg2_g3.out (.int .i64 a) (.int .i64 c) (.slice A7_ xs7.length c7_)) (.int .i64 q5_) (.int .i64 c) (.slice A6_ xs6.length c6_))).2 Try.underlying27 rfl (by kernel_rfl) rfl (Blk.drew (Blk.far3 (HZ3.out.set3 (.int .i64 a) (.int .i64 c) (.slice A7_ xs7.length c7_)) HNg2_g3.out.symm (.int .i64 q5_) (.int .i64 c) (.slice A6_ xs6.length c6_))).2 Try.underlying27 rfl (by kernel_rfl)) rfl ?_;exact⟨_,_,_,_,_,_,_,_,rfl,Lg (Lh (V_set3 (V_set3 HV6.out (fun _ hk=>hk.2) (.int .i64 a) (.int .i64 c) (.slice A7_ xs7.length c7_)) (fun _ hk=>hk.1.2) (.int .i64 q5_) (.int .i64 c) (.slice A6_ xs6.length c6_))) (fun _ hk=>hk.1.1),Lg (Lh (V_set3 (V_set3 HV7.out (fun _ hk=>hk.2) (.int .i64 a) (.int .i64 c) (.slice A7_ xs7.length c7_)) (fun _ hk=>hk.1.2) (.int .i64 q5_) (.int .i64 c) (.slice A6_ xs6.length c6_))) (fun _ hk=>hk.1.1),(by have h6_:=HL6.out;omega),(by first|(have h7_:=HL7.out;omega)|(have h7_:=HL7.out;simp only [List.length_set,List.length_drop];omega)|(have h8_:=HL8.out;omega)),(CurQ.drew (CurQ.set3 (CurQ.set3 HC.out HZ3.out HW.out (.int .i64 a) (.int .i64 c) (.slice A7_ xs7.length c7_)) (HZ2.out.far3 HNg2_g3.out (.int .i64 a) (.int .i64 c) (.slice A7_ xs7.length c7_)) HW.out (.int .i64 q5_) (.int .i64 c) (.slice A6_ xs6.length c6_)))⟩))
  ·have hf06_:=Lb HB6.out.2 0
   have hz06_:ww2_.cell? ⟨g6,0,none⟩=some (.int .i64 a):=(Lc HB6.out.2 0).trans rfl
   have hf16_:=Lb HB6.out.2 1
   have hz16_:ww2_.cell? ⟨g6,1,none⟩=some (.int .i64 c):=(Lc HB6.out.2 1).trans rfl
   have hf26_:=Lb HB6.out.2 2
   have hz26_:ww2_.cell? ⟨g6,2,none⟩=some (.slice A6_ xs6.length c6_):=(Lc HB6.out.2 2).trans rfl
   have hf07_:=Lb HB7.out.2 0
   have hz07_:ww2_.cell? ⟨g7,0,none⟩=some (.int .i64 a):=(Lc HB7.out.2 0).trans rfl
   have hf17_:=Lb HB7.out.2 1
   have hz17_:ww2_.cell? ⟨g7,1,none⟩=some (.int .i64 c):=(Lc HB7.out.2 1).trans rfl
   have hf27_:=Lb HB7.out.2 2
   have hz27_:ww2_.cell? ⟨g7,2,none⟩=some (.slice A9_ (xs7.length - 1) (c7_ - 1)):=(Lc HB7.out.2 2).trans rfl
   have hf0a_:=Lb HZ2.out.2 0
   have hz0a_:ww2_.cell? ⟨g2,0,none⟩=some (.int .i64 0):=(Lc HZ2.out.2 0).trans rfl
   have hf1a_:=Lb HZ2.out.2 1
   have hz1a_:ww2_.cell? ⟨g2,1,none⟩=some (.int .i64 0):=(Lc HZ2.out.2 1).trans rfl
   have hf2a_:=Lb HZ2.out.2 2
   have hz2a_:ww2_.cell? ⟨g2,2,none⟩=some (.slice none 0 0):=(Lc HZ2.out.2 2).trans rfl
   have hf0b_:=Lb HZ3.out.2 0
   have hz0b_:ww2_.cell? ⟨g3,0,none⟩=some (.int .i64 0):=(Lc HZ3.out.2 0).trans rfl
   have hf1b_:=Lb HZ3.out.2 1
   have hz1b_:ww2_.cell? ⟨g3,1,none⟩=some (.int .i64 0):=(Lc HZ3.out.2 1).trans rfl
   have hf2b_:=Lb HZ3.out.2 2
   have hz2b_:ww2_.cell? ⟨g3,2,none⟩=some (.slice none 0 0):=(Lc HZ3.out.2 2).trans rfl
   have HV6:=La (R_okx (Li HR6.out (fun _ hk=>hk.1)) HZ2.out HZ3.out)
   have hn23_:=HNg2_g3.out
   have hn32_:=HNg2_g3.out.symm
   have hn26_:=HNg2_g6.out
   have hn62_:=HNg2_g6.out.symm
   have hn27_:=HNg2_g7.out
   have hn72_:=HNg2_g7.out.symm
   have hn36_:=HNg3_g6.out
   have hn63_:=HNg3_g6.out.symm
   have hn37_:=HNg3_g7.out
   have hn73_:=HNg3_g7.out.symm
   go_region_held3 (fun w'=>(w'.cell? ⟨g6,0,none⟩=some (.int .i64 a)∧w'.cell? ⟨g6,1,none⟩=some (.int .i64 c)∧w'.cell? ⟨g6,2,none⟩=some (.slice A6_ xs6.length c6_))∧(w'.cell? ⟨g7,0,none⟩=some (.int .i64 a)∧w'.cell? ⟨g7,1,none⟩=some (.int .i64 c)∧w'.cell? ⟨g7,2,none⟩=some (.slice A9_ (xs7.length - 1) (c7_ - 1)))) (go_keep) (fail)
   all_goals go_wp2
   all_goals (((try simp only [Exit.inBlock,Exit.then]));first|(refine bodyPost_ret (results_cc rfl _ _ g2 g3 27 27 #[.int .i64 a,.int .i64 c,.slice A6_ xs6.length c6_] #[.int .i64 a,.int .i64 c,.slice A9_ (xs7.length - 1) (c7_ - 1)] (0,0) (0,0) _ _ rfl (Blk.drew (Blk.far3 (HZ2.out.set3 (.int .i64 a) (.int .i64 c) (.slice A6_ xs6.length c6_)) HNg2_g3.out (.int .i64 a) (.int .i64 c) (.slice A9_ (xs7.length - 1) (c7_ - 1)))).2 Try.underlying27 rfl (by kernel_rfl) rfl (Blk.drew (Blk.set3 (HZ3.out.far3 HNg2_g3.out.symm (.int .i64 a) (.int .i64 c) (.slice A6_ xs6.length c6_)) (.int .i64 a) (.int .i64 c) (.slice A9_ (xs7.length - 1) (c7_ - 1)))).2 Try.underlying27 rfl (by kernel_rfl)) rfl ?_;exact⟨_,_,_,_,_,_,_,_,rfl,Lg (Lh (V_set3 (V_set3 HV6.out (fun _ hk=>hk.1.2) (.int .i64 a) (.int .i64 c) (.slice A6_ xs6.length c6_)) (fun _ hk=>hk.2) (.int .i64 a) (.int .i64 c) (.slice A9_ (xs7.length - 1) (c7_ - 1)))) (fun _ hk=>hk.1.1),Lg (Lh (V_set3 (V_set3 HV7.out (fun _ hk=>hk.1.2) (.int .i64 a) (.int .i64 c) (.slice A6_ xs6.length c6_)) (fun _ hk=>hk.2) (.int .i64 a) (.int .i64 c) (.slice A9_ (xs7.length - 1) (c7_ - 1)))) (fun _ hk=>hk.1.1),(by have h6_:=HL6.out;omega),(by first|(have h7_:=HL7.out;omega)|(have h7_:=HL7.out;simp only [List.length_set,List.length_drop];omega)|(have h8_:=HL8.out;omega)),(CurQ.drew (CurQ.set3 (CurQ.set3 HC.out HZ2.out HW.out (.int .i64 a) (.int .i64 c) (.slice A6_ xs6.length c6_)) (HZ3.out.far3 HNg2_g3.out.symm (.int .i64 a) (.int .i64 c) (.slice A6_ xs6.length c6_)) HW.out (.int .i64 a) (.int .i64 c) (.slice A9_ (xs7.length - 1) (c7_ - 1))))⟩)|(refine bodyPost_ret (results_cc rfl _ _ g2 g3 27 27 #[.int .i64 a,.int .i64 c,.slice A6_ xs6.length c6_] #[.int .i64 a,.int .i64 c,.slice A9_ (xs7.length - 1) (c7_ - 1)] (0,0) (0,0) _ _ rfl (Blk.drew (Blk.set3 (HZ2.out.far3 HNg2_g3.out (.int .i64 a) (.int .i64 c) (.slice A9_ (xs7.length - 1) (c7_ - 1))) (.int .i64 a) (.int .i64 c) (.slice A6_ xs6.length c6_))).2 Try.underlying27 rfl (by kernel_rfl) rfl (Blk.drew (Blk.far3 (HZ3.out.set3 (.int .i64 a) (.int .i64 c) (.slice A9_ (xs7.length - 1) (c7_ - 1))) HNg2_g3.out.symm (.int .i64 a) (.int .i64 c) (.slice A6_ xs6.length c6_))).2 Try.underlying27 rfl (by kernel_rfl)) rfl ?_;exact⟨_,_,_,_,_,_,_,_,rfl,Lg (Lh (V_set3 (V_set3 HV6.out (fun _ hk=>hk.2) (.int .i64 a) (.int .i64 c) (.slice A9_ (xs7.length - 1) (c7_ - 1))) (fun _ hk=>hk.1.2) (.int .i64 a) (.int .i64 c) (.slice A6_ xs6.length c6_))) (fun _ hk=>hk.1.1),Lg (Lh (V_set3 (V_set3 HV7.out (fun _ hk=>hk.2) (.int .i64 a) (.int .i64 c) (.slice A9_ (xs7.length - 1) (c7_ - 1))) (fun _ hk=>hk.1.2) (.int .i64 a) (.int .i64 c) (.slice A6_ xs6.length c6_))) (fun _ hk=>hk.1.1),(by have h6_:=HL6.out;omega),(by first|(have h7_:=HL7.out;omega)|(have h7_:=HL7.out;simp only [List.length_set,List.length_drop];omega)|(have h8_:=HL8.out;omega)),(CurQ.drew (CurQ.set3 (CurQ.set3 HC.out HZ3.out HW.out (.int .i64 a) (.int .i64 c) (.slice A9_ (xs7.length - 1) (c7_ - 1))) (HZ2.out.far3 HNg2_g3.out (.int .i64 a) (.int .i64 c) (.slice A9_ (xs7.length - 1) (c7_ - 1))) HW.out (.int .i64 a) (.int .i64 c) (.slice A6_ xs6.length c6_)))⟩))
  ·have hf06_:=Lb HB6.out.2 0
   have hz06_:ww3_.cell? ⟨g6,0,none⟩=some (.int .i64 a):=(Lc HB6.out.2 0).trans rfl
   have hf16_:=Lb HB6.out.2 1
   have hz16_:ww3_.cell? ⟨g6,1,none⟩=some (.int .i64 c):=(Lc HB6.out.2 1).trans rfl
   have hf26_:=Lb HB6.out.2 2
   have hz26_:ww3_.cell? ⟨g6,2,none⟩=some (.slice A6_ xs6.length c6_):=(Lc HB6.out.2 2).trans rfl
   have hf07_:=Lb HB7.out.2 0
   have hz07_:ww3_.cell? ⟨g7,0,none⟩=some (.int .i64 c):=(Lc HB7.out.2 0).trans rfl
   have hf17_:=Lb HB7.out.2 1
   have hz17_:ww3_.cell? ⟨g7,1,none⟩=some (.int .i64 a):=(Lc HB7.out.2 1).trans rfl
   have hf27_:=Lb HB7.out.2 2
   have hz27_:ww3_.cell? ⟨g7,2,none⟩=some (.slice A8_ xs8.length c8_):=(Lc HB7.out.2 2).trans rfl
   have hf0a_:=Lb HZ2.out.2 0
   have hz0a_:ww3_.cell? ⟨g2,0,none⟩=some (.int .i64 0):=(Lc HZ2.out.2 0).trans rfl
   have hf1a_:=Lb HZ2.out.2 1
   have hz1a_:ww3_.cell? ⟨g2,1,none⟩=some (.int .i64 0):=(Lc HZ2.out.2 1).trans rfl
   have hf2a_:=Lb HZ2.out.2 2
   have hz2a_:ww3_.cell? ⟨g2,2,none⟩=some (.slice none 0 0):=(Lc HZ2.out.2 2).trans rfl
   have hf0b_:=Lb HZ3.out.2 0
   have hz0b_:ww3_.cell? ⟨g3,0,none⟩=some (.int .i64 0):=(Lc HZ3.out.2 0).trans rfl
   have hf1b_:=Lb HZ3.out.2 1
   have hz1b_:ww3_.cell? ⟨g3,1,none⟩=some (.int .i64 0):=(Lc HZ3.out.2 1).trans rfl
   have hf2b_:=Lb HZ3.out.2 2
   have hz2b_:ww3_.cell? ⟨g3,2,none⟩=some (.slice none 0 0):=(Lc HZ3.out.2 2).trans rfl
   have HV6:=La (R_okx (Li HR6.out (fun _ hk=>hk.1)) HZ2.out HZ3.out)
   have HV7:=La (R_okx HR8.out HZ2.out HZ3.out)
   have hn23_:=HNg2_g3.out
   have hn32_:=HNg2_g3.out.symm
   have hn26_:=HNg2_g6.out
   have hn62_:=HNg2_g6.out.symm
   have hn27_:=HNg2_g7.out
   have hn72_:=HNg2_g7.out.symm
   have hn36_:=HNg3_g6.out
   have hn63_:=HNg3_g6.out.symm
   have hn37_:=HNg3_g7.out
   have hn73_:=HNg3_g7.out.symm
   go_region_held3 (fun w'=>(w'.cell? ⟨g6,0,none⟩=some (.int .i64 a)∧w'.cell? ⟨g6,1,none⟩=some (.int .i64 c)∧w'.cell? ⟨g6,2,none⟩=some (.slice A6_ xs6.length c6_))∧(w'.cell? ⟨g7,0,none⟩=some (.int .i64 c)∧w'.cell? ⟨g7,1,none⟩=some (.int .i64 a)∧w'.cell? ⟨g7,2,none⟩=some (.slice A8_ xs8.length c8_))) (go_keep) (fail)
   all_goals go_wp2
   all_goals (((try simp only [Exit.inBlock,Exit.then]));first|(refine bodyPost_ret (results_cc rfl _ _ g2 g3 27 27 #[.int .i64 a,.int .i64 c,.slice A6_ xs6.length c6_] #[.int .i64 c,.int .i64 a,.slice A8_ xs8.length c8_] (0,0) (0,0) _ _ rfl (Blk.drew (Blk.far3 (HZ2.out.set3 (.int .i64 a) (.int .i64 c) (.slice A6_ xs6.length c6_)) HNg2_g3.out (.int .i64 c) (.int .i64 a) (.slice A8_ xs8.length c8_))).2 Try.underlying27 rfl (by kernel_rfl) rfl (Blk.drew (Blk.set3 (HZ3.out.far3 HNg2_g3.out.symm (.int .i64 a) (.int .i64 c) (.slice A6_ xs6.length c6_)) (.int .i64 c) (.int .i64 a) (.slice A8_ xs8.length c8_))).2 Try.underlying27 rfl (by kernel_rfl)) rfl ?_;exact⟨_,_,_,_,_,_,_,_,rfl,Lg (Lh (V_set3 (V_set3 HV6.out (fun _ hk=>hk.1.2) (.int .i64 a) (.int .i64 c) (.slice A6_ xs6.length c6_)) (fun _ hk=>hk.2) (.int .i64 c) (.int .i64 a) (.slice A8_ xs8.length c8_))) (fun _ hk=>hk.1.1),Lg (Lh (V_set3 (V_set3 HV7.out (fun _ hk=>hk.1.2) (.int .i64 a) (.int .i64 c) (.slice A6_ xs6.length c6_)) (fun _ hk=>hk.2) (.int .i64 c) (.int .i64 a) (.slice A8_ xs8.length c8_))) (fun _ hk=>hk.1.1),(by have h6_:=HL6.out;omega),(by first|(have h7_:=HL7.out;omega)|(have h7_:=HL7.out;simp only [List.length_set,List.length_drop];omega)|(have h8_:=HL8.out;omega)),(CurQ.drew (CurQ.set3 (CurQ.set3 HC.out HZ2.out HW.out (.int .i64 a) (.int .i64 c) (.slice A6_ xs6.length c6_)) (HZ3.out.far3 HNg2_g3.out.symm (.int .i64 a) (.int .i64 c) (.slice A6_ xs6.length c6_)) HW.out (.int .i64 c) (.int .i64 a) (.slice A8_ xs8.length c8_)))⟩)|(refine bodyPost_ret (results_cc rfl _ _ g2 g3 27 27 #[.int .i64 a,.int .i64 c,.slice A6_ xs6.length c6_] #[.int .i64 c,.int .i64 a,.slice A8_ xs8.length c8_] (0,0) (0,0) _ _ rfl (Blk.drew (Blk.set3 (HZ2.out.far3 HNg2_g3.out (.int .i64 c) (.int .i64 a) (.slice A8_ xs8.length c8_)) (.int .i64 a) (.int .i64 c) (.slice A6_ xs6.length c6_))).2 Try.underlying27 rfl (by kernel_rfl) rfl (Blk.drew (Blk.far3 (HZ3.out.set3 (.int .i64 c) (.int .i64 a) (.slice A8_ xs8.length c8_)) HNg2_g3.out.symm (.int .i64 a) (.int .i64 c) (.slice A6_ xs6.length c6_))).2 Try.underlying27 rfl (by kernel_rfl)) rfl ?_;exact⟨_,_,_,_,_,_,_,_,rfl,Lg (Lh (V_set3 (V_set3 HV6.out (fun _ hk=>hk.2) (.int .i64 c) (.int .i64 a) (.slice A8_ xs8.length c8_)) (fun _ hk=>hk.1.2) (.int .i64 a) (.int .i64 c) (.slice A6_ xs6.length c6_))) (fun _ hk=>hk.1.1),Lg (Lh (V_set3 (V_set3 HV7.out (fun _ hk=>hk.2) (.int .i64 c) (.int .i64 a) (.slice A8_ xs8.length c8_)) (fun _ hk=>hk.1.2) (.int .i64 a) (.int .i64 c) (.slice A6_ xs6.length c6_))) (fun _ hk=>hk.1.1),(by have h6_:=HL6.out;omega),(by first|(have h7_:=HL7.out;omega)|(have h7_:=HL7.out;simp only [List.length_set,List.length_drop];omega)|(have h8_:=HL8.out;omega)),(CurQ.drew (CurQ.set3 (CurQ.set3 HC.out HZ3.out HW.out (.int .i64 c) (.int .i64 a) (.slice A8_ xs8.length c8_)) (HZ2.out.far3 HNg2_g3.out (.int .i64 c) (.int .i64 a) (.slice A8_ xs8.length c8_)) HW.out (.int .i64 a) (.int .i64 c) (.slice A6_ xs6.length c6_)))⟩))
  ·have hf06_:=Lb HB6.out.2 0
   have hz06_:wc_.cell? ⟨g6,0,none⟩=some (.int .i64 a):=(Lc HB6.out.2 0).trans rfl
   have hf16_:=Lb HB6.out.2 1
   have hz16_:wc_.cell? ⟨g6,1,none⟩=some (.int .i64 c):=(Lc HB6.out.2 1).trans rfl
   have hf26_:=Lb HB6.out.2 2
   have hz26_:wc_.cell? ⟨g6,2,none⟩=some (.slice A6_ xs6.length c6_):=(Lc HB6.out.2 2).trans rfl
   have hf07_:=Lb HB7.out.2 0
   have hz07_:wc_.cell? ⟨g7,0,none⟩=some (.int .i64 a):=(Lc HB7.out.2 0).trans rfl
   have hf17_:=Lb HB7.out.2 1
   have hz17_:wc_.cell? ⟨g7,1,none⟩=some (.int .i64 c):=(Lc HB7.out.2 1).trans rfl
   have hf27_:=Lb HB7.out.2 2
   have hz27_:wc_.cell? ⟨g7,2,none⟩=some (.slice A7_ xs7.length c7_):=(Lc HB7.out.2 2).trans rfl
   have hf0a_:=Lb HZ2.out.2 0
   have hz0a_:wc_.cell? ⟨g2,0,none⟩=some (.int .i64 0):=(Lc HZ2.out.2 0).trans rfl
   have hf1a_:=Lb HZ2.out.2 1
   have hz1a_:wc_.cell? ⟨g2,1,none⟩=some (.int .i64 0):=(Lc HZ2.out.2 1).trans rfl
   have hf2a_:=Lb HZ2.out.2 2
   have hz2a_:wc_.cell? ⟨g2,2,none⟩=some (.slice none 0 0):=(Lc HZ2.out.2 2).trans rfl
   have hf0b_:=Lb HZ3.out.2 0
   have hz0b_:wc_.cell? ⟨g3,0,none⟩=some (.int .i64 0):=(Lc HZ3.out.2 0).trans rfl
   have hf1b_:=Lb HZ3.out.2 1
   have hz1b_:wc_.cell? ⟨g3,1,none⟩=some (.int .i64 0):=(Lc HZ3.out.2 1).trans rfl
   have hf2b_:=Lb HZ3.out.2 2
   have hz2b_:wc_.cell? ⟨g3,2,none⟩=some (.slice none 0 0):=(Lc HZ3.out.2 2).trans rfl
   have HV6:=La (R_okx (Li HR6.out (fun _ hk=>hk.1)) HZ2.out HZ3.out)
   have HV7:=La (R_okx HR7.out HZ2.out HZ3.out)
   have hn23_:=HNg2_g3.out
   have hn32_:=HNg2_g3.out.symm
   have hn26_:=HNg2_g6.out
   have hn62_:=HNg2_g6.out.symm
   have hn27_:=HNg2_g7.out
   have hn72_:=HNg2_g7.out.symm
   have hn36_:=HNg3_g6.out
   have hn63_:=HNg3_g6.out.symm
   have hn37_:=HNg3_g7.out
   have hn73_:=HNg3_g7.out.symm
   go_region_held3 (fun w'=>(w'.cell? ⟨g6,0,none⟩=some (.int .i64 a)∧w'.cell? ⟨g6,1,none⟩=some (.int .i64 c)∧w'.cell? ⟨g6,2,none⟩=some (.slice A6_ xs6.length c6_))∧(w'.cell? ⟨g7,0,none⟩=some (.int .i64 a)∧w'.cell? ⟨g7,1,none⟩=some (.int .i64 c)∧w'.cell? ⟨g7,2,none⟩=some (.slice A7_ xs7.length c7_))) (go_keep) (fail)
   all_goals go_wp2
   all_goals (((try simp only [Exit.inBlock,Exit.then]));first|(refine bodyPost_ret (results_cc rfl _ _ g2 g3 27 27 #[.int .i64 a,.int .i64 c,.slice A6_ xs6.length c6_] #[.int .i64 a,.int .i64 c,.slice A7_ xs7.length c7_] (0,0) (0,0) _ _ rfl (Blk.drew (Blk.far3 (HZ2.out.set3 (.int .i64 a) (.int .i64 c) (.slice A6_ xs6.length c6_)) HNg2_g3.out (.int .i64 a) (.int .i64 c) (.slice A7_ xs7.length c7_))).2 Try.underlying27 rfl (by kernel_rfl) rfl (Blk.drew (Blk.set3 (HZ3.out.far3 HNg2_g3.out.symm (.int .i64 a) (.int .i64 c) (.slice A6_ xs6.length c6_)) (.int .i64 a) (.int .i64 c) (.slice A7_ xs7.length c7_))).2 Try.underlying27 rfl (by kernel_rfl)) rfl ?_;exact⟨_,_,_,_,_,_,_,_,rfl,Lg (Lh (V_set3 (V_set3 HV6.out (fun _ hk=>hk.1.2) (.int .i64 a) (.int .i64 c) (.slice A6_ xs6.length c6_)) (fun _ hk=>hk.2) (.int .i64 a) (.int .i64 c) (.slice A7_ xs7.length c7_))) (fun _ hk=>hk.1.1),Lg (Lh (V_set3 (V_set3 HV7.out (fun _ hk=>hk.1.2) (.int .i64 a) (.int .i64 c) (.slice A6_ xs6.length c6_)) (fun _ hk=>hk.2) (.int .i64 a) (.int .i64 c) (.slice A7_ xs7.length c7_))) (fun _ hk=>hk.1.1),(by have h6_:=HL6.out;omega),(by first|(have h7_:=HL7.out;omega)|(have h7_:=HL7.out;simp only [List.length_set,List.length_drop];omega)|(have h8_:=HL8.out;omega)),(CurQ.drew (CurQ.set3 (CurQ.set3 HC.out HZ2.out HW.out (.int .i64 a) (.int .i64 c) (.slice A6_ xs6.length c6_)) (HZ3.out.far3 HNg2_g3.out.symm (.int .i64 a) (.int .i64 c) (.slice A6_ xs6.length c6_)) HW.out (.int .i64 a) (.int .i64 c) (.slice A7_ xs7.length c7_)))⟩)|(refine bodyPost_ret (results_cc rfl _ _ g2 g3 27 27 #[.int .i64 a,.int .i64 c,.slice A6_ xs6.length c6_] #[.int .i64 a,.int .i64 c,.slice A7_ xs7.length c7_] (0,0) (0,0) _ _ rfl (Blk.drew (Blk.set3 (HZ2.out.far3 HNg2_g3.out (.int .i64 a) (.int .i64 c) (.slice A7_ xs7.length c7_)) (.int .i64 a) (.int .i64 c) (.slice A6_ xs6.length c6_))).2 Try.underlying27 rfl (by kernel_rfl) rfl (Blk.drew (Blk.far3 (HZ3.out.set3 (.int .i64 a) (.int .i64 c) (.slice A7_ xs7.length c7_)) HNg2_g3.out.symm (.int .i64 a) (.int .i64 c) (.slice A6_ xs6.length c6_))).2 Try.underlying27 rfl (by kernel_rfl)) rfl ?_;exact⟨_,_,_,_,_,_,_,_,rfl,Lg (Lh (V_set3 (V_set3 HV6.out (fun _ hk=>hk.2) (.int .i64 a) (.int .i64 c) (.slice A7_ xs7.length c7_)) (fun _ hk=>hk.1.2) (.int .i64 a) (.int .i64 c) (.slice A6_ xs6.length c6_))) (fun _ hk=>hk.1.1),Lg (Lh (V_set3 (V_set3 HV7.out (fun _ hk=>hk.2) (.int .i64 a) (.int .i64 c) (.slice A7_ xs7.length c7_)) (fun _ hk=>hk.1.2) (.int .i64 a) (.int .i64 c) (.slice A6_ xs6.length c6_))) (fun _ hk=>hk.1.1),(by have h6_:=HL6.out;omega),(by first|(have h7_:=HL7.out;omega)|(have h7_:=HL7.out;simp only [List.length_set,List.length_drop];omega)|(have h8_:=HL8.out;omega)),(CurQ.drew (CurQ.set3 (CurQ.set3 HC.out HZ3.out HW.out (.int .i64 a) (.int .i64 c) (.slice A7_ xs7.length c7_)) (HZ2.out.far3 HNg2_g3.out (.int .i64 a) (.int .i64 c) (.slice A7_ xs7.length c7_)) HW.out (.int .i64 a) (.int .i64 c) (.slice A6_ xs6.length c6_)))⟩))

set_option maxHeartbeats 4000000 in
set_option maxRecDepth 100000 in
theorem spec_l14DrawQ.calls {b : List Int} {g : Nat} {w0 wc w : World} (h : CurQ w0 b g wc w) :
  Calls Try.prog 81 #[.pointer (some ⟨g,0,none⟩)] w fun e w'=>∃ q:Int,e=.returned (.int .i64 q)∧CurQ w0 b g w w':=by
 have HC:=La h.from_
 clear h
 go_enter Try.func81,Try.ntmps81
 go_wp2_with (first|(go_at_call 64;(with_reducible refine(cur_once (w0:=w0) (w:=w) (b:=b) 12 ?c1).mono ?_);(case c1=>exact(by repeat(first|(with_reducible first|exact HC.out|apply CurQ.alloc|apply CurQ.drewN)|exact HC.out)));rintro e wc_ ⟨q1_,rfl,hc_⟩;have mc_:=La (CurQ.trans (by repeat(first|(with_reducible first|exact HC.out|apply CurQ.alloc|apply CurQ.drewN)|exact HC.out)) hc_);clear HC;have HC:=mc_;clear mc_;clear hc_)|((with_reducible refine gate_dst (N:=5) rfl ?_);refine Kd.R_lit (Kd.int .i64) _ 2 ?hg (N:=5) ?hd (xs:=[0,1,64,65]) (inner:=[.int .i64 (0),.int .i64 (1),.int .i64 (64),.int .i64 (65)]) (ok:=(fun k_=>w.heap.size≤k_)) (okp:=(fun k_=>w.heap.size≤k_)) ?hr ?hp (fun _ hk=>hk) (cur_size (by repeat(first|(with_reducible first|exact HC.out|apply CurQ.alloc|apply CurQ.drewN)|exact HC.out))) (Below.refl _ _) (Nat.le_refl _) (by simp) ?_;(case hd=>rfl);(case hg=>rfl);(case hr=>first|(go_simp;done)|(go_simp;rfl));(case hp=>exact lit_i _);intro vl_ wl_ hol_ hb_ hg_ hnew_;clear hg_ hnew_;have HRL:=La (Kd.R_lower hol_ (Below.size (cur_blw (by repeat(first|(with_reducible first|exact HC.out|apply CurQ.alloc|apply CurQ.drewN)|exact HC.out)))));clear hol_;have mc_:=La (CurQ.below (by repeat(first|(with_reducible first|exact HC.out|apply CurQ.alloc|apply CurQ.drewN)|exact HC.out)) hb_);clear HC;have HC:=mc_;clear mc_;clear hb_;obtain⟨Al_,cl_,el_⟩:=Kd.R_slice HRL.out;subst el_)|(go_at_call 65;(with_reducible refine(cur_below (w0:=w0) (w:=w) (b:=b) 4 ?c1).mono ?_);(case c1=>exact(by repeat(first|(with_reducible first|exact HC.out|apply CurQ.alloc|apply CurQ.drewN)|exact HC.out)));rintro e wc_ ⟨r4_,rfl,⟨h40_,h41_⟩,hc_⟩;have mr0_:=La (R_curI (e:=2) (d:=Kd.int .i64) (by decide) (by(with_reducible repeat(first|apply Le|apply Lf|apply Ld));exact HRL.out) (by repeat(first|(with_reducible first|exact HC.out|apply CurQ.alloc|apply CurQ.drewN)|exact HC.out)) hc_);have mc_:=La (CurQ.trans (by repeat(first|(with_reducible first|exact HC.out|apply CurQ.alloc|apply CurQ.drewN)|exact HC.out)) hc_);clear HC;have HC:=mc_;clear mc_;clear HRL;have HRL:=mr0_;clear mr0_;clear hc_;obtain⟨adl_,el_,hxl_⟩:=Kd.at_int (Kd.R_reads' HRL.out).2.2 r4_ h40_ (by have h_:=h41_ (by decide);simpa using h_);cases el_;have pl_:(0≤r4_)=True:=eq_true h40_;have ql_:(r4_ < 4)=True:=eq_true (h41_ (by decide)))|(go_at_call 65;(with_reducible refine(cur_below (w0:=w0) (w:=w) (b:=b) 12 ?c1).mono ?_);(case c1=>exact(by repeat(first|(with_reducible first|exact HC.out|apply CurQ.alloc|apply CurQ.drewN)|exact HC.out)));rintro e wc_ ⟨r_,rfl,⟨_,_⟩,hc_⟩;have mc_:=La (CurQ.trans (by repeat(first|(with_reducible first|exact HC.out|apply CurQ.alloc|apply CurQ.drewN)|exact HC.out)) hc_);clear HC;have HC:=mc_;clear mc_;clear hc_))
 all_goals
  go_ret
  exact⟨_,rfl,(by repeat(first|(with_reducible first|exact HC.out|apply CurQ.alloc|apply CurQ.drewN)|exact HC.out))⟩

theorem finfo8 : (Try.prog.info? 5).map (fun i => (i.zero, i.size, i.bytes)) = some (some (.int .u8 0), 1, 1) := by kernel_rfl
theorem R_append8 {P : Program} {ops : Array Oper} {rest : List Oper} {o : Oper} {a : Act} {Q : Exit → Act → World → Prop} {w0 W : World} {b : Int} (base : Nat) (hgd : o.guard = none) (s x : Operand) (t e : TypeId)
  (ho:o.op=.call { callee:=.builtin .append,args:=#[s,x],argTypes:=#[t,t] })
  (ht:P.underlying t=some (.slice e)) (hinfo:(P.info? e).map (fun i=>(i.zero,i.size,i.bytes))=some (some (.int .u8 0),1,1))
  (v:Value) (xs:List Int) (ok:Nat→Prop) (hs:a.eval s=v) (hx:a.eval x=.slice (some ⟨W.heap.size,0,none⟩) 1 1) (hfresh:∀ k,W.heap.size≤k→ok k)
  (HO:Kd.R (Kd.int .u8) e W base ok v xs) (HB:Below base w0 W) (hbase:base≤W.heap.size) (hl:(xs.length+1)*1≤140737488355328)
  (h:∀ v1 w1 (ys:List Int),ys=xs ++ [b]→Kd.R (Kd.int .u8) e w1 base ok v1 ys→Below base w0 w1→W.grownBy w1 v.ownBlock→wpList P ops Q rest (a.put o.dst v1) w1) :
  wpList P ops Q (o :: rest) a (W.alloc (.cells #[.int .u8 b] e)):=
 Kd.R_append (Kd.int .u8) base hgd s x t e (.int .u8 0) 1 ho ht hinfo rfl (by decide) (by omega) v xs b [.int .u8 b] ok (fun _=>False) hs hx rfl (fun _ hk=>hk.elim) hfresh HO HB hbase hl (fun v1 w1 h1 h2 h3 _=>h v1 w1 (xs ++ [b]) rfl h1 h2 h3)
theorem CurQ.setX {w0 w W : World} {b : List Int} {g go : Nat} {cs : Array Value} (h1 : CurQ w0 b g w W) (hg : W.heap[go]? = some (.cells cs 5 (0, 0))) (hle : w.heap.size ≤ go) (i : Nat) (u : Value) (hw : w0.heap.size ≤ w.heap.size) : CurQ w0 b g w (W.setCell ⟨go, i, none⟩ u) := by
 obtain⟨i',h',s,q,bl,k⟩:=h1
 exact⟨i',h',s,IsS84.far q (q.ne_blk hg (by decide)) u,below_set bl (Nat.le_trans hw hle),keep_far k hle u⟩
theorem Blk.grown8 {w W W' : World} {gp base : Nat} {cs : Array Value} {v : Value} {xs : List Int} {ok : Nat → Prop} (h : Blk w W gp cs) (hr : Kd.R (Kd.int .u8) 5 W base ok v xs) (hg : W.grownBy W' v.ownBlock) : Blk w W' gp cs := ⟨h.1, blk_grown h.2 hg (Kd.R_ne hr h.2 (by decide))⟩
theorem Row2.grown8 {W W' : World} {lo hi base : Nat} {u v : Value} {xs : List Int} {bs : List Int} (h : Row2 W lo hi u xs) (hr : Kd.R (Kd.int .u8) 5 W base (fun k => hi ≤ k) v bs) (hg : W.grownBy W' v.ownBlock) : Row2 W' lo hi u xs :=
 Kd.V_grown h hg (fun k hk e=>by have h3:=hr.1 k e.symm;omega)
theorem Row2.far8 {W : World} {lo hi go i : Nat} {v : Value} {xs : List Int} (h : Row2 W lo hi v xs) (hg : hi ≤ go) (x : Value) : Row2 (W.setCell ⟨go, i, none⟩ x) lo hi v xs := Kd.V_far (p := ⟨go, i, none⟩) h (fun k hk => by show k ≠ go; omega) x
theorem cur_byte {w0 w W : World} {b : List Int} {g : Nat} (h : CurQ w0 b g w W) :
  Calls Try.prog 82 #[.pointer (some ⟨g,0,none⟩)] W fun e w'=>∃ r:Int,e=.returned (.int .i64 r)∧(0≤r∧r≤255)∧CurQ w0 b g W w':=by
 obtain⟨i,h',s,q,bl,k⟩:=h
 obtain⟨⟨r1,r2,r3⟩,hf,hr,hs⟩:=byte_some h' s
 refine(spec_l1Byte.calls g b i h' r1 r2 r3 w0 W q bl hf).mono ?_
 rintro e w' ⟨rfl,hI,hB,hK⟩
 exact⟨r1,rfl,hr,r2,r3,hs,hI,hB,hK⟩
def Byts (l : List Int) : Prop := ∀ x ∈ l, 0 ≤ x ∧ x ≤ 255
theorem Byts.set {l : List Int} (h : Byts l) (i : Nat) {x : Int} (hx : 0 ≤ x ∧ x ≤ 255) : Byts (l.set i x) := fun y hy => by
 rcases List.mem_or_eq_of_mem_set hy with hy|hy
 ·exact h y hy
 ·rw [hy];exact hx
theorem Byts.snoc {l : List Int} (h : Byts l) {x : Int} (hx : 0 ≤ x ∧ x ≤ 255) : Byts (l ++ [x]) := fun y hy => by
 rcases List.mem_append.1 hy with hy|hy
 ·exact h y hy
 ·rw [List.mem_singleton.1 hy];exact hx
theorem Byts.take {l : List Int} (h : Byts l) (n : Nat) : Byts (l.take n) := fun y hy => h y (List.mem_of_mem_take hy)
def EncTot : Prop := ∀ (a c : Int) (xs : List Int) (a2 c2 : Int) (ys : List Int) (q : Int), xs.length ≤ 1000 → ys.length ≤ 1000 → ∃ (k : Nat) (B : List Int) (is : Bool), spec_Encode.f k a c xs a2 c2 ys q = some (B, is) ∧ B.length ≤ 9000 ∧ Byts B
theorem Row2.reads {W : World} {lo hi n c : Nat} {A : Option Addr} {xs : List Int} (h : Row2 W lo hi (.slice A n c) xs) : n = xs.length ∧ n ≤ c ∧ Kd.C (Kd.int .i64) W A xs.length xs := Kd.V_reads' h
theorem blk_of_R {W : World} {base go n c : Nat} {ok : Nat → Prop} {xs : List Int} (h : Kd.R (Kd.int .u8) 5 W base ok (.slice (some ⟨go, 0, none⟩) n c) xs) : ∃ (_ : True) (cs : Array Value), W.heap[go]? = some (.cells cs 5 (0, 0)) := by
 obtain⟨cs,hc⟩:=Kd.R_typed h go rfl
 exact⟨trivial,cs,hc⟩
theorem R_set3w {w W : World} {gp base : Nat} {cs : Array Value} {v : Value} {xs : List Int} {ok : Nat → Prop} (hr : Kd.R (Kd.int .u8) 5 W base ok v xs) (h : Blk w W gp cs) (x y z : Value) : Kd.R (Kd.int .u8) 5 (((W.setCell ⟨gp, 0, none⟩ x).setCell ⟨gp, 1, none⟩ y).setCell ⟨gp, 2, none⟩ z) base ok v xs :=
 Li (Kd.R_far (p:=⟨gp,2,none⟩) (Kd.R_far (p:=⟨gp,1,none⟩) (Kd.R_far (p:=⟨gp,0,none⟩) (Kd.R_types hr h.2 (by decide)) (fun _ hk=>hk.2) x) (fun _ hk=>hk.2) y) (fun _ hk=>hk.2) z) (fun _ hk=>hk.1)

set_option maxHeartbeats 4000000 in
set_option maxRecDepth 100000 in
theorem spec_DrawDecode.calls (hT0 : EncTot) (A0 : Option Addr) (c0 : Nat) (l0 : List Int) (w : World) (hr0 : Kd.C (Kd.int .u8) w A0 l0.length l0) (hc0 : l0.length ≤ c0) (hl : l0.length ≤ 4096) :
  Calls Try.prog 44 #[.slice A0 l0.length c0] w fun e w'=>∃ (a c:Int) (v0:Value) (xs:List Int) (vb:Value) (bs:List Int) (q:Int),e=.returned (.tuple #[.agg #[.int .i64 a,.int .i64 c,v0],vb,.int .i64 q])∧Kd.V (Kd.int .i64) 2 w' 0 (fun _=>True) v0 xs∧Kd.R (Kd.int .u8) 5 w' w.heap.size (fun _=>True) vb bs∧xs.length≤1000∧bs.length≤9010∧Byts bs∧Below w.heap.size w w':=by
 have hT:=La hT0
 clear hT0
 have HB:=La (Below.refl w.heap.size w)
 obtain⟨i0_,hi0_,_,hsz_,_⟩:=info_parts finfo8
 have HI0:=La hi0_
 clear hi0_ hsz_
 go_enter Try.func44,Try.ntmps44
 go_wp2_with (first|((with_reducible refine gate_dst (N:=2) rfl ?_);refine box_event ?hg (N:=2) ?hd (cs:=#[.int .i64 0,.int .i64 0,.slice none 0 0]) (t:=27) ?hr ?_;(case hd=>rfl);(case hg=>rfl);(case hr=>first|(go_simp;done)|(go_simp;rfl));intro g2 hg_ wz_ hbox_ hb_;have nz_:=La (show Blk w wz_ g2 #[.int .i64 0,.int .i64 0,.slice none 0 0] from⟨by rw [hg_];exact Below.size (by repeat(first|(with_reducible first|exact HB.out|apply below_alloc|apply pw_below_drewN)|exact HB.out)),hbox_⟩);have mc_:=La (below_step (by repeat(first|(with_reducible first|exact HB.out|apply below_alloc|apply pw_below_drewN)|exact HB.out)) hb_);clear HB;have HB:=mc_;clear mc_;have qa:=nz_;clear nz_ hbox_ hb_ hg_)|(go_at_call 62;refine(cur_new (w:=wz_) (Kd.C_below hr0 HB.out) hc0 hl).mono ?_;rintro e wn_ ⟨g,rfl,hq_⟩;have HC:=La hq_;have HW:=La (Below.size (cur_blw hq_));have mb0_:=La (Blk.below qa.out (cur_blw hq_));skip;clear qa hq_;have qa:=mb0_;clear mb0_)|(go_at_call 72;(with_reducible refine(spec_l14DrawTwo.calls (w0:=wz_) (wc:=wn_) (b:=l0) ?c1).mono ?_);(case c1=>exact(by repeat(first|(with_reducible first|exact HC.out|apply CurQ.alloc|apply CurQ.drewN)|exact HC.out)));rintro e wt_ ⟨a,c,a2,c2,v0,v1,xs,ys,rfl,hv0_,hv1_,hlx_,hly_,hc_⟩;have HLX:=La hlx_;have HLY:=La hly_;have hgn_:=La (cur_lt HC.out);have hl2n_:=La (blk_lt qa.out.2);have qd:=La (Row2.of (Lg hv0_ (fun k_ hk_=>hk_):Kd.V (Kd.int .i64) 2 wt_ wz_.heap.size (fun k=>wn_.heap.size≤k) v0 xs));have qh:=La (Row2.of (Lg hv1_ (fun k_ hk_=>hk_):Kd.V (Kd.int .i64) 2 wt_ wz_.heap.size (fun k=>wn_.heap.size≤k) v1 ys));have hlHB_g2_:=La (Nat.lt_of_lt_of_le (blk_lt qa.out.2) (cur_size hc_));have mb0_:=La (Blk.curx (by repeat(first|(with_reducible first|exact qa.out|apply Blk.alloc|apply Blk.drewN)|exact qa.out)) (by repeat(first|(with_reducible first|exact HC.out|apply CurQ.alloc|apply CurQ.drewN)|exact HC.out)) hc_);have mc_:=La (CurQ.trans (by repeat(first|(with_reducible first|exact HC.out|apply CurQ.alloc|apply CurQ.drewN)|exact HC.out)) hc_);clear HC hc_ hv0_ hv1_ hlx_ hly_;have HC:=mc_;clear mc_;clear qa;have qa:=mb0_;clear mb0_;have mc_:=La (CurQ.from_ HC.out);clear HC;have HC:=mc_;clear mc_ HW;have HW:=La (Below.size (cur_blw HC.out));obtain⟨qf,qg,e0_⟩:=Kd.V_slice qd.out;subst e0_;obtain⟨A1_,k1_,e1_⟩:=Kd.V_slice qh.out;subst e1_)|((with_reducible refine gate_dst (N:=6) rfl ?_);refine box_event ?hg (N:=6) ?hd (cs:=#[.int .i64 0,.int .i64 0,.slice none 0 0]) (t:=27) ?hr ?_;(case hd=>rfl);(case hg=>rfl);(case hr=>first|(go_simp;done)|(go_simp;rfl));intro g6 hg_ w6_ hbox_ hb_;have hge_g6_:=La (show wt_.heap.size≤g6 from by rw [hg_];exact Nat.le_refl _);have hsz6_:=La (Below.size hb_);have nz_:=La (show Blk wt_ w6_ g6 #[.int .i64 0,.int .i64 0,.slice none 0 0] from⟨by rw [hg_];exact cur_size (by repeat(first|(with_reducible first|exact HC.out|apply CurQ.alloc|apply CurQ.drewN)|exact HC.out)),hbox_⟩);have mb0_:=La (Blk.below (by repeat(first|(with_reducible first|exact qa.out|apply Blk.alloc|apply Blk.drewN)|exact qa.out)) hb_);have mr0_:=La (Row2.below (by repeat(first|(with_reducible first|exact qd.out|apply Row2.alloc|apply Row2.drewN)|exact qd.out)) hb_);have mr1_:=La (Row2.below (by repeat(first|(with_reducible first|exact qh.out|apply Row2.alloc|apply Row2.drewN)|exact qh.out)) hb_);have mc_:=La (CurQ.below (by repeat(first|(with_reducible first|exact HC.out|apply CurQ.alloc|apply CurQ.drewN)|exact HC.out)) hb_);clear HC;have HC:=mc_;clear mc_;clear qa;have qa:=mb0_;clear mb0_;clear qd;have qd:=mr0_;clear mr0_;clear qh;have qh:=mr1_;clear mr1_;have qb:=nz_;clear nz_ hbox_ hb_ hg_)|((with_reducible refine gate_dst (N:=7) rfl ?_);refine box_event ?hg (N:=7) ?hd (cs:=#[.int .i64 0,.int .i64 0,.slice none 0 0]) (t:=27) ?hr ?_;(case hd=>rfl);(case hg=>rfl);(case hr=>first|(go_simp;done)|(go_simp;rfl));intro g7 hg_ w7_ hbox_ hb_;have hge_g7_:=La (show wt_.heap.size≤g7 from by rw [hg_];exact hsz6_.out);have hn67_:=La (show g6≠g7 from by rw [hg_];exact Nat.ne_of_lt (blk_lt (show Blk wt_ _ g6 _ from(by repeat(first|(with_reducible first|exact qb.out|apply Blk.alloc|apply Blk.drewN)|exact qb.out))).2));have hn26_:=La (show g2≠g6 from Nat.ne_of_lt (Nat.lt_of_lt_of_le hlHB_g2_.out hge_g6_.out));have hn27_:=La (show g2≠g7 from Nat.ne_of_lt (Nat.lt_of_lt_of_le hlHB_g2_.out hge_g7_.out));have nz_:=La (show Blk wt_ w7_ g7 #[.int .i64 0,.int .i64 0,.slice none 0 0] from⟨by rw [hg_];exact cur_size (by repeat(first|(with_reducible first|exact HC.out|apply CurQ.alloc|apply CurQ.drewN)|exact HC.out)),hbox_⟩);have mb0_:=La (Blk.below (by repeat(first|(with_reducible first|exact qa.out|apply Blk.alloc|apply Blk.drewN)|exact qa.out)) hb_);have mb1_:=La (Blk.below (by repeat(first|(with_reducible first|exact qb.out|apply Blk.alloc|apply Blk.drewN)|exact qb.out)) hb_);have mr0_:=La (Row2.below (by repeat(first|(with_reducible first|exact qd.out|apply Row2.alloc|apply Row2.drewN)|exact qd.out)) hb_);have mr1_:=La (Row2.below (by repeat(first|(with_reducible first|exact qh.out|apply Row2.alloc|apply Row2.drewN)|exact qh.out)) hb_);have mc_:=La (CurQ.below (by repeat(first|(with_reducible first|exact HC.out|apply CurQ.alloc|apply CurQ.drewN)|exact HC.out)) hb_);clear HC;have HC:=mc_;clear mc_;clear qa;have qa:=mb0_;clear mb0_;clear qb;have qb:=mb1_;clear mb1_;clear qd;have qd:=mr0_;clear mr0_;clear qh;have qh:=mr1_;clear mr1_;have qc:=nz_;obtain⟨wu_,hwu_⟩:∃ x_,x_=w7_:=⟨_,rfl⟩;subst hwu_;have hf0g6_:=Lb qb.out.2 0;have hz0g6_:wu_.cell? ⟨g6,0,none⟩=some (.int .i64 0):=(Lc qb.out.2 0).trans rfl;have hf1g6_:=Lb qb.out.2 1;have hz1g6_:wu_.cell? ⟨g6,1,none⟩=some (.int .i64 0):=(Lc qb.out.2 1).trans rfl;have hf2g6_:=Lb qb.out.2 2;have hz2g6_:wu_.cell? ⟨g6,2,none⟩=some (.slice none 0 0):=(Lc qb.out.2 2).trans rfl;clear nz_ hbox_ hb_ hg_)|((with_reducible refine gate_store (t:=27) (p:=6) rfl ?_);refine store_event (t:=27) (p:=6) (v:=?vo16x_) (w1:=((wu_.setCell ⟨g6,0,none⟩ (.int .i64 a)).setCell ⟨g6,1,none⟩ (.int .i64 c)).setCell ⟨g6,2,none⟩ (.slice qf xs.length qg)) ?hg ?ho ?hn ?hr ?_;(case ho=>rfl);(case hg=>rfl);(case hn=>rfl);(case hr=>first|(go_simp;done)|(go_simp;rfl));intro ws_ hw_;subst hw_;have m0_:=La (show Blk wt_ _ g6 #[.int .i64 a,.int .i64 c,.slice qf xs.length qg] from qb.out.set3 (.int .i64 a) (.int .i64 c) (.slice qf xs.length qg));have mc_:=La (CurQ.set3 HC.out qb.out HW.out (.int .i64 a) (.int .i64 c) (.slice qf xs.length qg));have mb0_:=La (Blk.far3 qa.out hn26_.out (.int .i64 a) (.int .i64 c) (.slice qf xs.length qg));have mb1_:=La (Blk.far3 qc.out hn67_.out.symm (.int .i64 a) (.int .i64 c) (.slice qf xs.length qg));have mr0_:=La (Row2.set3 qd.out (.inr hge_g6_.out) (.int .i64 a) (.int .i64 c) (.slice qf xs.length qg));have mr1_:=La (Row2.set3 qh.out (.inr hge_g6_.out) (.int .i64 a) (.int .i64 c) (.slice qf xs.length qg));clear qb HC qa qc qd qh hz0g6_ hz1g6_ hz2g6_ hf0g6_ hf1g6_ hf2g6_;revert m0_ mc_ mb0_ mb1_ mr0_ mr1_;generalize (((wu_.setCell ⟨g6,0,none⟩ (.int .i64 a)).setCell ⟨g6,1,none⟩ (.int .i64 c)).setCell ⟨g6,2,none⟩ (.slice qf xs.length qg))=wv_;intro qb HC qa qc qd qh;have hf0g7_:=Lb qc.out.2 0;have hz0g7_:wv_.cell? ⟨g7,0,none⟩=some (.int .i64 0):=(Lc qc.out.2 0).trans rfl;have hf1g7_:=Lb qc.out.2 1;have hz1g7_:wv_.cell? ⟨g7,1,none⟩=some (.int .i64 0):=(Lc qc.out.2 1).trans rfl;have hf2g7_:=Lb qc.out.2 2;have hz2g7_:wv_.cell? ⟨g7,2,none⟩=some (.slice none 0 0):=(Lc qc.out.2 2).trans rfl)|((with_reducible refine gate_store (t:=27) (p:=7) rfl ?_);refine store_event (t:=27) (p:=7) (v:=?vo17x_) (w1:=((wv_.setCell ⟨g7,0,none⟩ (.int .i64 a2)).setCell ⟨g7,1,none⟩ (.int .i64 c2)).setCell ⟨g7,2,none⟩ (.slice A1_ ys.length k1_)) ?hg ?ho ?hn ?hr ?_;(case ho=>rfl);(case hg=>rfl);(case hn=>rfl);(case hr=>first|(go_simp;done)|(go_simp;rfl));intro ws_ hw_;subst hw_;have m0_:=La (show Blk wt_ _ g7 #[.int .i64 a2,.int .i64 c2,.slice A1_ ys.length k1_] from qc.out.set3 (.int .i64 a2) (.int .i64 c2) (.slice A1_ ys.length k1_));have mc_:=La (CurQ.set3 HC.out qc.out HW.out (.int .i64 a2) (.int .i64 c2) (.slice A1_ ys.length k1_));have mb0_:=La (Blk.far3 qa.out hn27_.out (.int .i64 a2) (.int .i64 c2) (.slice A1_ ys.length k1_));have mb1_:=La (Blk.far3 qb.out hn67_.out (.int .i64 a2) (.int .i64 c2) (.slice A1_ ys.length k1_));have mr0_:=La (Row2.set3 qd.out (.inr hge_g7_.out) (.int .i64 a2) (.int .i64 c2) (.slice A1_ ys.length k1_));have mr1_:=La (Row2.set3 qh.out (.inr hge_g7_.out) (.int .i64 a2) (.int .i64 c2) (.slice A1_ ys.length k1_));clear qc HC qa qb qd qh hz0g7_ hz1g7_ hz2g7_ hf0g7_ hf1g7_ hf2g7_;revert m0_ mc_ mb0_ mb1_ mr0_ mr1_;generalize (((wv_.setCell ⟨g7,0,none⟩ (.int .i64 a2)).setCell ⟨g7,1,none⟩ (.int .i64 c2)).setCell ⟨g7,2,none⟩ (.slice A1_ ys.length k1_))=wx_;intro qc HC qa qb qd qh;skip)|(go_at_call 81;(with_reducible refine(spec_l14DrawQ.calls (w0:=wz_) (wc:=wt_) (b:=l0) ?cq_).mono ?_);(case cq_=>exact(by repeat(first|(with_reducible first|exact HC.out|apply CurQ.alloc|apply CurQ.drewN)|exact HC.out)));rintro e wq_ ⟨q,rfl,hc_⟩;have mb0_:=La (Blk.curx (by repeat(first|(with_reducible first|exact qa.out|apply Blk.alloc|apply Blk.drewN)|exact qa.out)) (by repeat(first|(with_reducible first|exact HC.out|apply CurQ.alloc|apply CurQ.drewN)|exact HC.out)) hc_);have mb1_:=La (Blk.curx (by repeat(first|(with_reducible first|exact qb.out|apply Blk.alloc|apply Blk.drewN)|exact qb.out)) (by repeat(first|(with_reducible first|exact HC.out|apply CurQ.alloc|apply CurQ.drewN)|exact HC.out)) hc_);have mb2_:=La (Blk.curx (by repeat(first|(with_reducible first|exact qc.out|apply Blk.alloc|apply Blk.drewN)|exact qc.out)) (by repeat(first|(with_reducible first|exact HC.out|apply CurQ.alloc|apply CurQ.drewN)|exact HC.out)) hc_);have mr0_:=La (Row2.cur (by repeat(first|(with_reducible first|exact qd.out|apply Row2.alloc|apply Row2.drewN)|exact qd.out)) hc_ hgn_.out);have mr1_:=La (Row2.cur (by repeat(first|(with_reducible first|exact qh.out|apply Row2.alloc|apply Row2.drewN)|exact qh.out)) hc_ hgn_.out);have mc_:=La (CurQ.trans (by repeat(first|(with_reducible first|exact HC.out|apply CurQ.alloc|apply CurQ.drewN)|exact HC.out)) hc_);clear qa qb qc qd qh HC hc_;have qa:=mb0_;have qb:=mb1_;have qc:=mb2_;have qd:=mr0_;have qh:=mr1_;have HC:=mc_;clear mb0_ mb1_ mb2_ mr0_ mr1_ mc_;obtain⟨k,B,is,hE_,hBl_,hBb_⟩:=hT.out a c xs a2 c2 ys q HLX.out HLY.out;have HE:=La hE_;have HBL:=La hBl_;have HBY:=La hBb_;clear hE_ hBl_ hBb_;have hf0qg6_:=Lb qb.out.2 0;have hz0qg6_:wq_.cell? ⟨g6,0,none⟩=some (.int .i64 a):=(Lc qb.out.2 0).trans rfl;have hf1qg6_:=Lb qb.out.2 1;have hz1qg6_:wq_.cell? ⟨g6,1,none⟩=some (.int .i64 c):=(Lc qb.out.2 1).trans rfl;have hf2qg6_:=Lb qb.out.2 2;have hz2qg6_:wq_.cell? ⟨g6,2,none⟩=some (.slice qf xs.length qg):=(Lc qb.out.2 2).trans rfl;have hf0qg7_:=Lb qc.out.2 0;have hz0qg7_:wq_.cell? ⟨g7,0,none⟩=some (.int .i64 a2):=(Lc qc.out.2 0).trans rfl;have hf1qg7_:=Lb qc.out.2 1;have hz1qg7_:wq_.cell? ⟨g7,1,none⟩=some (.int .i64 c2):=(Lc qc.out.2 1).trans rfl;have hf2qg7_:=Lb qc.out.2 2;have hz2qg7_:wq_.cell? ⟨g7,2,none⟩=some (.slice A1_ ys.length k1_):=(Lc qc.out.2 2).trans rfl)|(go_at_call 41;(with_reducible refine(spec_Encode.calls k a c qf qg xs a2 c2 A1_ k1_ ys q B is _ ?se1_ (Row2.reads qd.out).2.1 ?se2_ (Row2.reads qh.out).2.1 HE.out).mono ?_);(case se1_=>exact(Kd.V_reads' (show Row2 _ _ _ _ _ from(by repeat(first|(with_reducible first|exact qd.out|apply Row2.alloc|apply Row2.drewN)|exact qd.out)))).2.2);(case se2_=>exact(Kd.V_reads' (show Row2 _ _ _ _ _ from(by repeat(first|(with_reducible first|exact qh.out|apply Row2.alloc|apply Row2.drewN)|exact qh.out)))).2.2);rintro e we_ ⟨vb_,rfl,hr_,hb_⟩;have HR:=La (show Kd.R (Kd.int .u8) 5 we_ wz_.heap.size (fun k=>wt_.heap.size≤k) vb_ B from Li (Kd.R_lower (Kd.R_bound hr_) (Below.size (cur_blw (by repeat(first|(with_reducible first|exact HC.out|apply CurQ.alloc|apply CurQ.drewN)|exact HC.out))))) (fun _ hk=>Nat.le_trans (cur_size (by repeat(first|(with_reducible first|exact HC.out|apply CurQ.alloc|apply CurQ.drewN)|exact HC.out))) hk.2.1));have mb0_:=La (Blk.below (by repeat(first|(with_reducible first|exact qa.out|apply Blk.alloc|apply Blk.drewN)|exact qa.out)) hb_);have mb1_:=La (Blk.below (by repeat(first|(with_reducible first|exact qb.out|apply Blk.alloc|apply Blk.drewN)|exact qb.out)) hb_);have mr0_:=La (Row2.below (by repeat(first|(with_reducible first|exact qd.out|apply Row2.alloc|apply Row2.drewN)|exact qd.out)) hb_);have mc_:=La (CurQ.below (by repeat(first|(with_reducible first|exact HC.out|apply CurQ.alloc|apply CurQ.drewN)|exact HC.out)) hb_);clear qa qb qc qd qh HC hb_ hr_ HE;have qa:=mb0_;have qb:=mb1_;have qd:=mr0_;have HC:=mc_;clear mb0_ mb1_ mr0_ mc_;obtain⟨Ab_,cb_,eb_⟩:=Kd.R_slice HR.out;subst eb_)|(go_at_call 65;(with_reducible have t_:=HBL);clear t_;(with_reducible refine(cur_below (w0:=wz_) (w:=wt_) (b:=l0) 3 ?c1).mono ?_);(case c1=>exact(by repeat(first|(with_reducible first|exact HC.out|apply CurQ.alloc|apply CurQ.drewN)|exact HC.out)));rintro e wc_ ⟨r11_,rfl,⟨h110_,h111_⟩,hc_⟩;have mb0_:=La (Blk.curx (by repeat(first|(with_reducible first|exact qa.out|apply Blk.alloc|apply Blk.drewN)|exact qa.out)) (by repeat(first|(with_reducible first|exact HC.out|apply CurQ.alloc|apply CurQ.drewN)|exact HC.out)) hc_);have mb1_:=La (Blk.curx (by repeat(first|(with_reducible first|exact qb.out|apply Blk.alloc|apply Blk.drewN)|exact qb.out)) (by repeat(first|(with_reducible first|exact HC.out|apply CurQ.alloc|apply CurQ.drewN)|exact HC.out)) hc_);have mr0_:=La (Row2.cur (by repeat(first|(with_reducible first|exact qd.out|apply Row2.alloc|apply Row2.drewN)|exact qd.out)) hc_ hgn_.out);have mr1_:=La (R_curI (e:=5) (d:=Kd.int .u8) (by decide) (by(with_reducible repeat(first|apply Le|apply Lf|apply Ld));exact HR.out) (by repeat(first|(with_reducible first|exact HC.out|apply CurQ.alloc|apply CurQ.drewN)|exact HC.out)) hc_);have mc_:=La (CurQ.trans (by repeat(first|(with_reducible first|exact HC.out|apply CurQ.alloc|apply CurQ.drewN)|exact HC.out)) hc_);clear qa qb qd HR HC hc_;have qa:=mb0_;have qb:=mb1_;have qd:=mr0_;have HR:=mr1_;have HC:=mc_;clear mb0_ mb1_ mr0_ mr1_ mc_))
 go_loopg [9,11] 3 (fun gg v9 v11 w'=>∃ (n:Nat) (bs:List Int) (Ab_:Option Addr) (cb_:Nat),Aside0 (n≤gg∧bs.length+n≤9010)∧v11=.int .i64 (n:Int)∧v9=.slice Ab_ bs.length cb_∧Aside0 (Byts bs)∧Aside0 (Blk w w' g2 #[.int .i64 0,.int .i64 0,.slice none 0 0])∧Aside0 (Blk wt_ w' g6 #[.int .i64 a,.int .i64 c,.slice qf xs.length qg])∧Aside0 (Row2 w' wn_.heap.size wt_.heap.size (.slice qf xs.length qg) xs)∧Aside0 (Kd.R (Kd.int .u8) 5 w' wz_.heap.size (fun k=>wt_.heap.size≤k) (.slice Ab_ bs.length cb_) bs)∧Aside0 (CurQ wz_ l0 g wt_ w'))
 case atStart=>
  obtain⟨n,hn_⟩:=Int.eq_ofNat_of_zero_le h110_
  have hn3_:=h111_ (by decide)
  exact⟨n,B,Ab_,cb_,⟨by omega,by have h_:=HBL.out;omega⟩,by rw [hn_],rfl,HBY,qa,qb,qd,HR,HC⟩
 case round=>
  clear qa qb qd HR HC HBY HBL
  obtain⟨n,bs,Ab_,cb_,HK,rfl,rfl,HBY,qa,qb,qd,HR,HC⟩:=hrel
  by_cases hn:0 < n
  ·by_cases hbl:0 < bs.length
   ·have hlb_:decide ((n:Int) > 0)=true:=decide_eq_true (by omega)
    have hlc_:decide ((bs.length:Int) > 0)=true:=decide_eq_true (by omega)
    have hld_:decide (0 < n)=true:=decide_eq_true hn
    have hle_:decide (0 < bs.length)=true:=decide_eq_true hbl
    obtain⟨go_,cg_,eg_,_,_,csg_,_⟩:=Kd.R_form HR.out hbl
    injection eg_ with ea_ en_ ec_
    subst ea_
    subst ec_
    clear en_
    have hgo_:=La (show wt_.heap.size≤go_ from HR.out.1 go_ rfl)
    have HAL:=La (show(bs.length+1)*1≤140737488355328 by have h_:=HK.out;omega)
    have hwn_:wrap64 ((n:Int) - 1)=((n - 1:Nat):Int):=by unfold wrap64;have h_:=HK.out;omega
    go_wp2_with (first|((fail_if_success (have:=HR12));go_at_call 65;(with_reducible refine(cur_below (w0:=wz_) (w:=wt_) (b:=l0) (bs.length:Int) ?c1).mono ?_);(case c1=>exact(by repeat(first|(with_reducible first|exact HC.out|apply CurQ.alloc|apply CurQ.drewN)|exact HC.out)));rintro e wc_ ⟨qe,rfl,⟨h120_,h121x_⟩,hc_⟩;have mb0_:=La (Blk.curx (by repeat(first|(with_reducible first|exact qa.out|apply Blk.alloc|apply Blk.drewN)|exact qa.out)) (by repeat(first|(with_reducible first|exact HC.out|apply CurQ.alloc|apply CurQ.drewN)|exact HC.out)) hc_);have mb1_:=La (Blk.curx (by repeat(first|(with_reducible first|exact qb.out|apply Blk.alloc|apply Blk.drewN)|exact qb.out)) (by repeat(first|(with_reducible first|exact HC.out|apply CurQ.alloc|apply CurQ.drewN)|exact HC.out)) hc_);have mr0_:=La (Row2.cur (by repeat(first|(with_reducible first|exact qd.out|apply Row2.alloc|apply Row2.drewN)|exact qd.out)) hc_ hgn_.out);have mr1_:=La (R_curI (e:=5) (d:=Kd.int .u8) (by decide) (by(with_reducible repeat(first|apply Le|apply Lf|apply Ld));exact HR.out) (by repeat(first|(with_reducible first|exact HC.out|apply CurQ.alloc|apply CurQ.drewN)|exact HC.out)) hc_);have mc_:=La (CurQ.trans (by repeat(first|(with_reducible first|exact HC.out|apply CurQ.alloc|apply CurQ.drewN)|exact HC.out)) hc_);clear qa qb qd HR HC hc_;have qa:=mb0_;have qb:=mb1_;have qd:=mr0_;have HR:=mr1_;have HC:=mc_;clear mb0_ mb1_ mr0_ mr1_ mc_;have h121_:=h121x_ (Int.ofNat_lt.2 hbl);clear h121x_;have HR12:Aside0 True:=⟨trivial⟩)|(go_at_call 65;(with_reducible refine(cur_below (w0:=wz_) (w:=wt_) (b:=l0) 4 ?c1).mono ?_);(case c1=>exact(by repeat(first|(with_reducible first|exact HC.out|apply CurQ.alloc|apply CurQ.drewN)|exact HC.out)));rintro e wc_ ⟨r4_,rfl,⟨h40_,h41_⟩,hc_⟩;have mb0_:=La (Blk.curx (by repeat(first|(with_reducible first|exact qa.out|apply Blk.alloc|apply Blk.drewN)|exact qa.out)) (by repeat(first|(with_reducible first|exact HC.out|apply CurQ.alloc|apply CurQ.drewN)|exact HC.out)) hc_);have mb1_:=La (Blk.curx (by repeat(first|(with_reducible first|exact qb.out|apply Blk.alloc|apply Blk.drewN)|exact qb.out)) (by repeat(first|(with_reducible first|exact HC.out|apply CurQ.alloc|apply CurQ.drewN)|exact HC.out)) hc_);have mr0_:=La (Row2.cur (by repeat(first|(with_reducible first|exact qd.out|apply Row2.alloc|apply Row2.drewN)|exact qd.out)) hc_ hgn_.out);have mr1_:=La (R_curI (e:=5) (d:=Kd.int .u8) (by decide) (by(with_reducible repeat(first|apply Le|apply Lf|apply Ld));exact HR.out) (by repeat(first|(with_reducible first|exact HC.out|apply CurQ.alloc|apply CurQ.drewN)|exact HC.out)) hc_);have mc_:=La (CurQ.trans (by repeat(first|(with_reducible first|exact HC.out|apply CurQ.alloc|apply CurQ.drewN)|exact HC.out)) hc_);clear qa qb qd HR HC hc_;have qa:=mb0_;have qb:=mb1_;have qd:=mr0_;have HR:=mr1_;have HC:=mc_;clear mb0_ mb1_ mr0_ mr1_ mc_;obtain⟨hx8_,hf8_⟩:=Kd.R_celln 0 HR.out qe h120_ h121_;have p12_:(0≤qe)=True:=eq_true h120_;have q12_:(qe < (bs.length:Int))=True:=eq_true h121_;have hcut_:=cut_to (P:=Try.prog) 37 5 .i64 Try.underlying37 HI0.out (some ⟨go_,0,none⟩) bs.length cb_ qe h120_ (Int.le_of_lt h121_) (Kd.R_reads' HR.out).2.1)|(go_at_call 82;(with_reducible refine(cur_byte (w0:=wz_) (w:=wt_) (b:=l0) ?c1).mono ?_);(case c1=>exact(by repeat(first|(with_reducible first|exact HC.out|apply CurQ.alloc|apply CurQ.drewN)|exact HC.out)));rintro e wc_ ⟨rb_,rfl,⟨hb0_,hb1_⟩,hc_⟩;have mb0_:=La (Blk.curx (by repeat(first|(with_reducible first|exact qa.out|apply Blk.alloc|apply Blk.drewN)|exact qa.out)) (by repeat(first|(with_reducible first|exact HC.out|apply CurQ.alloc|apply CurQ.drewN)|exact HC.out)) hc_);have mb1_:=La (Blk.curx (by repeat(first|(with_reducible first|exact qb.out|apply Blk.alloc|apply Blk.drewN)|exact qb.out)) (by repeat(first|(with_reducible first|exact HC.out|apply CurQ.alloc|apply CurQ.drewN)|exact HC.out)) hc_);have mr0_:=La (Row2.cur (by repeat(first|(with_reducible first|exact qd.out|apply Row2.alloc|apply Row2.drewN)|exact qd.out)) hc_ hgn_.out);have mr1_:=La (R_curI (e:=5) (d:=Kd.int .u8) (by decide) (by(with_reducible repeat(first|apply Le|apply Lf|apply Ld));exact HR.out) (by repeat(first|(with_reducible first|exact HC.out|apply CurQ.alloc|apply CurQ.drewN)|exact HC.out)) hc_);have mc_:=La (CurQ.trans (by repeat(first|(with_reducible first|exact HC.out|apply CurQ.alloc|apply CurQ.drewN)|exact HC.out)) hc_);clear qa qb qd HR HC hc_;have qa:=mb0_;have qb:=mb1_;have qd:=mr0_;have HR:=mr1_;have HC:=mc_;clear mb0_ mb1_ mr0_ mr1_ mc_;obtain⟨hx8_,hf8_⟩:=Kd.R_celln 0 HR.out qe h120_ h121_)|((with_reducible refine gate_store (t:=5) (p:=53) rfl ?_);refine store_event (t:=5) (p:=53) (v:=?vo18x_) (w1:=(wc_.setCell ⟨go_,qe.toNat,none⟩ (.int .u8 (rb_)))) ?hg ?ho ?hn ?hr ?_;(case ho=>rfl);(case hg=>rfl);(case hn=>rfl);(case hr=>first|(go_simp;done)|(go_simp;rfl));intro ws_ hw_;subst hw_;have mb0_:=La (Blk.far (p:=⟨go_,qe.toNat,none⟩) qa.out (own_ne_ (Kd.R_ne HR.out qa.out.2 (by decide))) (.int .u8 (rb_)));have mb1_:=La (Blk.far (p:=⟨go_,qe.toNat,none⟩) qb.out (own_ne_ (Kd.R_ne HR.out qb.out.2 (by decide))) (.int .u8 (rb_)));have mr0_:=La (Row2.far8 (i:=qe.toNat) qd.out hgo_.out (.int .u8 (rb_)));have mr1_:=La (Kd.R_putn HR.out qe (rb_));obtain⟨_,_,hgb_⟩:=blk_of_R HR.out;have mc_:=La (CurQ.setX HC.out hgb_ hgo_.out qe.toNat (.int .u8 (rb_)) HW.out);clear hgb_ qa qb qd HR HC hx8_ hf8_;revert mb0_ mb1_ mr0_ mr1_ mc_;generalize wc_.setCell ⟨go_,qe.toNat,none⟩ (.int .u8 (rb_))=ws8_;intro qa qb qd HR HC;have HST:Aside0 True:=⟨trivial⟩)|((with_reducible refine gate_store (t:=5) (p:=71) rfl ?_);refine store_event (t:=5) (p:=71) (v:=?vo19x_) (w1:=(wc_.setCell ⟨go_,qe.toNat,none⟩ (.int .u8 (255)))) ?hg ?ho ?hn ?hr ?_;(case ho=>rfl);(case hg=>rfl);(case hn=>rfl);(case hr=>first|(go_simp;done)|(go_simp;rfl));intro ws_ hw_;subst hw_;have mb0_:=La (Blk.far (p:=⟨go_,qe.toNat,none⟩) qa.out (own_ne_ (Kd.R_ne HR.out qa.out.2 (by decide))) (.int .u8 (255)));have mb1_:=La (Blk.far (p:=⟨go_,qe.toNat,none⟩) qb.out (own_ne_ (Kd.R_ne HR.out qb.out.2 (by decide))) (.int .u8 (255)));have mr0_:=La (Row2.far8 (i:=qe.toNat) qd.out hgo_.out (.int .u8 (255)));have mr1_:=La (Kd.R_putn HR.out qe (255));obtain⟨_,_,hgb_⟩:=blk_of_R HR.out;have mc_:=La (CurQ.setX HC.out hgb_ hgo_.out qe.toNat (.int .u8 (255)) HW.out);clear hgb_ qa qb qd HR HC hx8_ hf8_;revert mb0_ mb1_ mr0_ mr1_ mc_;generalize wc_.setCell ⟨go_,qe.toNat,none⟩ (.int .u8 (255))=ws8_;intro qa qb qd HR HC;have HST:Aside0 True:=⟨trivial⟩)|((with_reducible refine gate_builtin (b:=.append) (xs:=#[.tmp 61,.tmp 65]) rfl ?_);at_builtin;refine R_append8 (w0:=wz_) wz_.heap.size rfl (.tmp 61) (.tmp 65) 37 5 rfl Try.underlying37 finfo8 _ bs (fun k_=>wt_.heap.size≤k_) rfl rfl ?aF ?aO ?aB ?aS HAL.out ?_;(case aF=>exact(fun _ hk_=>Nat.le_trans (cur_size (by repeat(first|(with_reducible first|exact HC.out|apply CurQ.alloc|apply CurQ.drewN)|exact HC.out))) hk_));(case aO=>exact(by(with_reducible repeat(first|apply Le|apply Lf|apply Ld));exact HR.out));(case aB=>exact(cur_blw (by repeat(first|(with_reducible first|exact HC.out|apply CurQ.alloc|apply CurQ.drewN)|exact HC.out))));(case aS=>exact(Below.size (cur_blw (by repeat(first|(with_reducible first|exact HC.out|apply CurQ.alloc|apply CurQ.drewN)|exact HC.out)))));intro va_ wa_ ys_ hys_ hoa_ hba_ hg_;have mb0_:=La (Blk.grown8 (by repeat(first|(with_reducible first|exact qa.out|apply Blk.alloc|apply Blk.drewN)|exact qa.out)) (by(with_reducible repeat(first|apply Le|apply Lf|apply Ld));exact HR.out) hg_);have mb1_:=La (Blk.grown8 (by repeat(first|(with_reducible first|exact qb.out|apply Blk.alloc|apply Blk.drewN)|exact qb.out)) (by(with_reducible repeat(first|apply Le|apply Lf|apply Ld));exact HR.out) hg_);have mr0_:=La (Row2.grown8 (by repeat(first|(with_reducible first|exact qd.out|apply Row2.alloc|apply Row2.drewN)|exact qd.out)) (by(with_reducible repeat(first|apply Le|apply Lf|apply Ld));exact HR.out) hg_);have mc_:=La (cur_append (e:=5) (d:=Kd.int .u8) (by decide) (by repeat(first|(with_reducible first|exact HC.out|apply CurQ.alloc|apply CurQ.drewN)|exact HC.out)) (by(with_reducible repeat(first|apply Le|apply Lf|apply Ld));exact HR.out) hg_ hba_);clear qa qb qd HR HC;have qa:=mb0_;have qb:=mb1_;have qd:=mr0_;have HC:=mc_;obtain⟨Ac_,cc_,ec_⟩:=Kd.R_slice hoa_;subst ec_;have HR:=La hoa_;have HYS:=La hys_;clear mb0_ mb1_ mr0_ mc_ hoa_ hba_ hg_ hys_))
    all_goals
     have hle12_:qe.toNat≤bs.length:=by omega
     have hlt_:(bs.take qe.toNat).length=qe.toNat:=by rw [List.length_take];omega
     go_roundg (n - 1)
     case measure=>
      have h_:=HK.out
      omega
     case rel=>first|exact⟨n - 1,(bs.set qe.toNat (rb_)),_,_,⟨by omega,by rw [List.length_set];have h_:=HK.out;omega⟩,by first|rfl|(rw [hwn_]),by rw [List.length_set],⟨Byts.set HBY.out _ ⟨hb0_,hb1_⟩⟩,⟨(by repeat(first|(with_reducible first|exact qa.out|apply Blk.alloc|apply Blk.drewN)|exact qa.out))⟩,⟨(by repeat(first|(with_reducible first|exact qb.out|apply Blk.alloc|apply Blk.drewN)|exact qb.out))⟩,⟨(by repeat(first|(with_reducible first|exact qd.out|apply Row2.alloc|apply Row2.drewN)|exact qd.out))⟩,⟨by rw [List.length_set];exact HR.out⟩,⟨(by repeat(first|(with_reducible first|exact HC.out|apply CurQ.alloc|apply CurQ.drewN)|exact HC.out))⟩⟩|exact⟨n - 1,(bs.set qe.toNat (255)),_,_,⟨by omega,by rw [List.length_set];have h_:=HK.out;omega⟩,by first|rfl|(rw [hwn_]),by rw [List.length_set],⟨Byts.set HBY.out _ ⟨by decide,by decide⟩⟩,⟨(by repeat(first|(with_reducible first|exact qa.out|apply Blk.alloc|apply Blk.drewN)|exact qa.out))⟩,⟨(by repeat(first|(with_reducible first|exact qb.out|apply Blk.alloc|apply Blk.drewN)|exact qb.out))⟩,⟨(by repeat(first|(with_reducible first|exact qd.out|apply Row2.alloc|apply Row2.drewN)|exact qd.out))⟩,⟨by rw [List.length_set];exact HR.out⟩,⟨(by repeat(first|(with_reducible first|exact HC.out|apply CurQ.alloc|apply CurQ.drewN)|exact HC.out))⟩⟩|exact⟨n - 1,(bs.take qe.toNat),_,_,⟨by omega,by rw [hlt_];have h_:=HK.out;omega⟩,by first|rfl|(rw [hwn_]),by rw [hlt_],⟨Byts.take HBY.out _⟩,⟨(by repeat(first|(with_reducible first|exact qa.out|apply Blk.alloc|apply Blk.drewN)|exact qa.out))⟩,⟨(by repeat(first|(with_reducible first|exact qb.out|apply Blk.alloc|apply Blk.drewN)|exact qb.out))⟩,⟨(by repeat(first|(with_reducible first|exact qd.out|apply Row2.alloc|apply Row2.drewN)|exact qd.out))⟩,⟨by rw [hlt_];exact Kd.R_take (by(with_reducible repeat(first|apply Le|apply Lf|apply Ld));exact HR.out) hle12_⟩,⟨(by repeat(first|(with_reducible first|exact HC.out|apply CurQ.alloc|apply CurQ.drewN)|exact HC.out))⟩⟩|exact⟨n - 1,ys_,_,_,⟨by omega,by rw [HYS.out,List.length_append];have h_:=HK.out;simp only [List.length_singleton];omega⟩,by first|rfl|(rw [hwn_]),rfl,⟨by rw [HYS.out];exact Byts.snoc HBY.out ⟨hb0_,hb1_⟩⟩,⟨(by repeat(first|(with_reducible first|exact qa.out|apply Blk.alloc|apply Blk.drewN)|exact qa.out))⟩,⟨(by repeat(first|(with_reducible first|exact qb.out|apply Blk.alloc|apply Blk.drewN)|exact qb.out))⟩,⟨(by repeat(first|(with_reducible first|exact qd.out|apply Row2.alloc|apply Row2.drewN)|exact qd.out))⟩,⟨HR.out⟩,⟨(by repeat(first|(with_reducible first|exact HC.out|apply CurQ.alloc|apply CurQ.drewN)|exact HC.out))⟩⟩|exact⟨n - 1,bs,_,_,⟨by omega,by have h_:=HK.out;omega⟩,by first|rfl|(rw [hwn_]),rfl,⟨HBY.out⟩,⟨(by repeat(first|(with_reducible first|exact qa.out|apply Blk.alloc|apply Blk.drewN)|exact qa.out))⟩,⟨(by repeat(first|(with_reducible first|exact qb.out|apply Blk.alloc|apply Blk.drewN)|exact qb.out))⟩,⟨(by repeat(first|(with_reducible first|exact qd.out|apply Row2.alloc|apply Row2.drewN)|exact qd.out))⟩,⟨(by(with_reducible repeat(first|apply Le|apply Lf|apply Ld));exact HR.out)⟩,⟨(by repeat(first|(with_reducible first|exact HC.out|apply CurQ.alloc|apply CurQ.drewN)|exact HC.out))⟩⟩
   ·have hlc_:decide ((bs.length:Int) > 0)=false:=decide_eq_false (by omega)
    have hle_:decide (0 < bs.length)=false:=decide_eq_false hbl
    have hlb_:decide ((n:Int) > 0)=true:=decide_eq_true (by omega)
    have hld_:decide (0 < n)=true:=decide_eq_true hn
    have hn26_:=hn26_.out
    have hf0r6_:=Lb qb.out.2 0
    have hz0r6_:wr.cell? ⟨g6,0,none⟩=some (.int .i64 a):=(Lc qb.out.2 0).trans rfl
    have hf1r6_:=Lb qb.out.2 1
    have hz1r6_:wr.cell? ⟨g6,1,none⟩=some (.int .i64 c):=(Lc qb.out.2 1).trans rfl
    have hf2r6_:=Lb qb.out.2 2
    have hz2r6_:wr.cell? ⟨g6,2,none⟩=some (.slice qf xs.length qg):=(Lc qb.out.2 2).trans rfl
    have hf0r2_:=Lb qa.out.2 0
    have hz0r2_:wr.cell? ⟨g2,0,none⟩=some (.int .i64 0):=(Lc qa.out.2 0).trans rfl
    have hf1r2_:=Lb qa.out.2 1
    have hz1r2_:wr.cell? ⟨g2,1,none⟩=some (.int .i64 0):=(Lc qa.out.2 1).trans rfl
    have hf2r2_:=Lb qa.out.2 2
    have hz2r2_:wr.cell? ⟨g2,2,none⟩=some (.slice none 0 0):=(Lc qa.out.2 2).trans rfl
    go_wp2
    ((try simp only [Exit.inBlock,Exit.then]);refine bodyPost_ret (results_ctt rfl _ _ g2 27 #[.int .i64 a,.int .i64 c,.slice qf xs.length qg] (0,0) _ rfl (qa.out.set3 (.int .i64 a) (.int .i64 c) (.slice qf xs.length qg)).2 Try.underlying27 rfl (by kernel_rfl)) rfl ?_)
    exact⟨a,c,_,xs,_,bs,q,rfl,Lg (Row2.set3 qd.out (.inl hl2n_.out) (.int .i64 a) (.int .i64 c) (.slice qf xs.length qg)) (fun _ _=>trivial),Li (Kd.R_lower (R_set3w HR.out qa.out (.int .i64 a) (.int .i64 c) (.slice qf xs.length qg)) (Below.size HB.out)) (fun _ _=>trivial),HLX.out,by have h_:=HK.out;omega,HBY.out,below_set3 (below_step HB.out (cur_blw HC.out)) qa.out.1 (.int .i64 a) (.int .i64 c) (.slice qf xs.length qg)⟩
  ·have hlb_:decide ((n:Int) > 0)=false:=decide_eq_false (by omega)
   have hld_:decide (0 < n)=false:=decide_eq_false hn
   have hn26_:=hn26_.out
   have hf0r6_:=Lb qb.out.2 0
   have hz0r6_:wr.cell? ⟨g6,0,none⟩=some (.int .i64 a):=(Lc qb.out.2 0).trans rfl
   have hf1r6_:=Lb qb.out.2 1
   have hz1r6_:wr.cell? ⟨g6,1,none⟩=some (.int .i64 c):=(Lc qb.out.2 1).trans rfl
   have hf2r6_:=Lb qb.out.2 2
   have hz2r6_:wr.cell? ⟨g6,2,none⟩=some (.slice qf xs.length qg):=(Lc qb.out.2 2).trans rfl
   have hf0r2_:=Lb qa.out.2 0
   have hz0r2_:wr.cell? ⟨g2,0,none⟩=some (.int .i64 0):=(Lc qa.out.2 0).trans rfl
   have hf1r2_:=Lb qa.out.2 1
   have hz1r2_:wr.cell? ⟨g2,1,none⟩=some (.int .i64 0):=(Lc qa.out.2 1).trans rfl
   have hf2r2_:=Lb qa.out.2 2
   have hz2r2_:wr.cell? ⟨g2,2,none⟩=some (.slice none 0 0):=(Lc qa.out.2 2).trans rfl
   go_wp2
   ((try simp only [Exit.inBlock,Exit.then]);refine bodyPost_ret (results_ctt rfl _ _ g2 27 #[.int .i64 a,.int .i64 c,.slice qf xs.length qg] (0,0) _ rfl (qa.out.set3 (.int .i64 a) (.int .i64 c) (.slice qf xs.length qg)).2 Try.underlying27 rfl (by kernel_rfl)) rfl ?_)
   exact⟨a,c,_,xs,_,bs,q,rfl,Lg (Row2.set3 qd.out (.inl hl2n_.out) (.int .i64 a) (.int .i64 c) (.slice qf xs.length qg)) (fun _ _=>trivial),Li (Kd.R_lower (R_set3w HR.out qa.out (.int .i64 a) (.int .i64 c) (.slice qf xs.length qg)) (Below.size HB.out)) (fun _ _=>trivial),HLX.out,by have h_:=HK.out;omega,HBY.out,below_set3 (below_step HB.out (cur_blw HC.out)) qa.out.1 (.int .i64 a) (.int .i64 c) (.slice qf xs.length qg)⟩


end Go.Proofs.Ytbdnpfjjaokdbaa.HFnDecoded
