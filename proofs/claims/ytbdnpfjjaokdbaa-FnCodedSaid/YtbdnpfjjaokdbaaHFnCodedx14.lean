-- Laid by myprint.py, a program of this repo, out of the kit's printer and this repo's own texts (wip/hand).
import Derived.Test.YtbdnpfjjaokdbaaHFnCodedx0
import Derived.Test.YtbdnpfjjaokdbaaHFnCodedx6
import Derived.Test.YtbdnpfjjaokdbaaHFnCodedx13
namespace Go.Proofs.Ytbdnpfjjaokdbaa.HFnCoded
open Go.RowKit Go.Proofs.YtbdnpfjjaokdbaaW.PrintWords Go.Proofs.YtbdnpfjjaokdbaaW.PrintLast Go.Proofs.YtbdnpfjjaokdbaaW.PrintMore
attribute [local go_sem] max2_int min2_int max_two min_two max_three min_three max_four min_four   -- for this text's walks alone
set_option linter.unusedVariables false
set_option linter.unusedSimpArgs false
theorem Oa : type_of% @Aside0.mk := @Aside0.mk
theorem Ob : type_of% @blk_frozen := @blk_frozen
theorem Oc : type_of% @blk_cell := @blk_cell
theorem Od : type_of% @Kd.R_drew := @Kd.R_drew
theorem Oe : type_of% @Kd.R_alloc := @Kd.R_alloc
theorem Of : type_of% @Kd.R_drewN := @Kd.R_drewN
theorem Og : type_of% @Kd.V_mono := @Kd.V_mono
theorem Oh : type_of% @Kd.V_drew := @Kd.V_drew

/-! ### spec_DrawEncode: function 45 -/
open Go.Proofs.Ytbdnpfjjaokdbaa.PB
/-! #### the draws' cursor: where it stands (b: the bytes, i: how many are used) -/
def St (b : List Int) (i : Int) : Prop := 0 ≤ i ∧ i ≤ b.length ∧ b.length ≤ 4096
theorem and255 (x : Int) : 0 ≤ Go.bits .and .i64 x 255 ∧ Go.bits .and .i64 x 255 ≤ 255 := by
 have h:((BitVec.ofInt 64 x) &&& (BitVec.ofInt 64 255)).toNat≤255:=by
  rw [BitVec.toNat_and]
  exact Nat.le_trans Nat.and_le_right (by decide)
 have e:Go.bits .and .i64 x 255=IntKind.i64.wrap (((BitVec.ofInt 64 x) &&& (BitVec.ofInt 64 255)).toNat:Int):=rfl
 rw [e,IntKind.wrap_i64]
 omega
theorem byte_some {b : List Int} {i : Int} (h : Int) (hs : St b i) : SomeP (spec_l1Byte.f b i h) (fun r => (0 ≤ r.1 ∧ r.1 ≤ 255) ∧ St b r.2.1) := by
 obtain⟨h1,h2,h3⟩:=hs
 unfold spec_l1Byte.f
 refine somep_ite (fun hl=>somep_pos h1 (somep_now ⟨and255 _,?_⟩)) (fun hl=>somep_now ⟨and255 _,h1,h2,h3⟩)
 show St b (wrap64 (i+1))
 rw [w64 (by omega) (by omega)]
 exact⟨by omega,by omega,h3⟩
theorem below_some {b : List Int} {i : Int} (h : Int) (n : Int) (hs : St b i) : SomeP (spec_l1Below.f b i h n) (fun r => (0 ≤ r.1 ∧ (0 < n → r.1 < n)) ∧ St b r.2.1) := by
 unfold spec_l1Below.f
 refine somep_ite (fun hn=>somep_now ⟨⟨Int.le_refl _,fun h=>by omega⟩,hs⟩) (fun hn=>somep_ite (fun h2=>?_) (fun h2=>?_))
 ·refine somep_bind (byte_some h hs) (fun a ha=>somep_neg (by omega) (somep_now ⟨?_,ha.2⟩))
  have e:Int.tmod a.1 n=a.1 % n:=Int.tmod_eq_emod_of_nonneg ha.1.1
  show 0≤Int.tmod a.1 n∧(0 < n→Int.tmod a.1 n < n)
  rw [e]
  exact⟨Int.emod_nonneg _ (by omega),fun h=>Int.emod_lt_of_pos _ h⟩
 ·refine somep_bind (byte_some h hs) (fun a ha=>somep_bind (byte_some _ ha.2) (fun c hc=>somep_bind (byte_some _ hc.2) (fun d hd=>somep_bind (byte_some _ hd.2) (fun e he=>somep_neg (by omega) (somep_now ⟨?_,he.2⟩)))))
  have h1:=ha.1;have h3:=hc.1;have h4:=hd.1;have h5:=he.1
  have w1:wrap64 (a.1*16777216)=a.1*16777216:=w64 (by omega) (by omega)
  have w2:wrap64 (c.1*65536)=c.1*65536:=w64 (by omega) (by omega)
  have w3:wrap64 (d.1*256)=d.1*256:=w64 (by omega) (by omega)
  show 0≤Int.tmod (wrap64 (wrap64 (wrap64 (wrap64 (a.1*16777216)+wrap64 (c.1*65536))+wrap64 (d.1*256))+e.1)) n∧(0 < n→Int.tmod (wrap64 (wrap64 (wrap64 (wrap64 (a.1*16777216)+wrap64 (c.1*65536))+wrap64 (d.1*256))+e.1)) n < n)
  rw [w1,w2,w3,w64 (x:=a.1*16777216+c.1*65536) (by omega) (by omega),w64 (x:=a.1*16777216+c.1*65536+d.1*256) (by omega) (by omega),w64 (by omega) (by omega),Int.tmod_eq_emod_of_nonneg (by omega)]
  exact⟨Int.emod_nonneg _ (by omega),fun h=>Int.emod_lt_of_pos _ h⟩
theorem new_ev (code : List Int) (hc : code.length ≤ 4096) : EvP (fun k => spec_l1New.f k code) (fun r => r.1 = code ∧ St code r.2.1) := by
 have key:∀ d i (h:Int),i+d=code.length→EvP (fun k=>spec_l1New.l0 k code h (i:Int)) (fun r=>r.1=code∧St code r.2.1):=by
  intro d
  induction d with
  | zero =>
   intro i h hi
   refine evp_succ ?_
   have h1 : ¬ (i:Int) < (code.length:Int):=by omega
   simp only [spec_l1New.l0,h1,if_false]
   exact evp_now ⟨rfl,by refine⟨Int.le_refl _,?_,hc⟩;show(0:Int)≤code.length;omega⟩
  | succ d ih =>
   intro i h hi
   refine evp_succ ?_
   have h1:(i:Int) < (code.length:Int):=by omega
   have h2:(0:Int)≤(i:Int):=by omega
   have h4:=w64s (n:=i) (by omega)
   simp only [spec_l1New.l0,h1,h2,h4,if_true]
   exact ih (i+1) _ (by omega)
 exact key code.length 0 _ (by omega)
theorem once_some {b : List Int} {i : Int} (h : Int) (n : Int) (hs : St b i) : SomeP (spec_l1Once.f b i h n) (fun r => St b r.2.1) := by
 unfold spec_l1Once.f
 exact somep_bind (below_some h n hs) (fun a ha=>somep_now ha.2)
theorem from_some {b : List Int} {i : Int} (h : Int) (lo hi : Int) (hs : St b i) (h1 : -1000000000000 ≤ lo) (h2 : lo ≤ hi) (h3 : hi ≤ 1000000000000) : SomeP (spec_l1From.f b i h lo hi) (fun r => (lo ≤ r.1 ∧ r.1 ≤ hi) ∧ St b r.2.1) := by
 unfold spec_l1From.f
 have e:wrap64 (wrap64 (hi - lo)+1)=hi - lo+1:=by rw [w64 (x:=hi - lo) (by omega) (by omega),w64 (by omega) (by omega)]
 rw [e]
 refine somep_bind (below_some h _ hs) (fun a ha=>somep_now ⟨?_,ha.2⟩)
 have:=ha.1.2 (by omega)
 have:=ha.1.1
 show lo≤wrap64 (lo+a.1)∧wrap64 (lo+a.1)≤hi
 rw [w64 (by omega) (by omega)]
 omega

def CurQ (w0 : World) (b : List Int) (g : Nat) (w W : World) : Prop := ∃ i h : Int, St b i ∧ IsS84 w0 W g b i h ∧ Below w0.heap.size w0 W ∧ KeepBut w W g none
theorem CurQ.trans {w0 w W W' : World} {b : List Int} {g : Nat} (h1 : CurQ w0 b g w W) (h2 : CurQ w0 b g W W') : CurQ w0 b g w W' := by
 obtain⟨_,_,_,_,_,k1⟩:=h1
 obtain⟨i,h,s,q,bl,k2⟩:=h2
 exact⟨i,h,s,q,bl,KeepBut.trans k1 k2 (.inl rfl)⟩
theorem CurQ.drewN {w0 w W : World} {b : List Int} {g : Nat} (h1 : CurQ w0 b g w W) (n : Nat) : CurQ w0 b g w (W.drewN n) := by
 obtain⟨i,h,s,q,bl,k⟩:=h1
 exact⟨i,h,s,IsS84.drewN q n,pw_below_drewN bl n,keep_drewN k n⟩
theorem CurQ.alloc {w0 w W : World} {b : List Int} {g : Nat} (h1 : CurQ w0 b g w W) (o : Obj) : CurQ w0 b g w (W.alloc o) := by
 obtain⟨i,h,s,q,bl,k⟩:=h1
 exact⟨i,h,s,IsS84.alloc q o,below_alloc bl o,keep_alloc k o⟩
theorem CurQ.refl {w0 w : World} {b : List Int} {g : Nat} {i h : Int} (s : St b i) (q : IsS84 w0 w g b i h) (bl : Below w0.heap.size w0 w) : CurQ w0 b g w w := ⟨i, h, s, q, bl, ⟨Nat.le_refl _, fun _ _ _ _ => rfl⟩⟩
theorem CurQ.from_ {w0 wc w : World} {b : List Int} {g : Nat} (h : CurQ w0 b g wc w) : CurQ w0 b g w w := by
 obtain⟨i,h',s,q,bl,_⟩:=h
 exact CurQ.refl s q bl
theorem CurQ.below {w0 w W W' : World} {b : List Int} {g : Nat} (h1 : CurQ w0 b g w W) (hb : Below W.heap.size W W') : CurQ w0 b g w W' := by
 obtain⟨i,h,s,q,bl,k⟩:=h1
 exact⟨i,h,s,IsS84.below q hb,below_step bl hb,KeepBut.trans k (KeepBut.of_below hb g none) (.inl rfl)⟩
theorem cur_size {w0 w W : World} {b : List Int} {g : Nat} (h1 : CurQ w0 b g w W) : w.heap.size ≤ W.heap.size := by
 obtain⟨_,_,_,_,_,k⟩:=h1
 exact k.1
theorem cur_blw {w0 w W : World} {b : List Int} {g : Nat} (h1 : CurQ w0 b g w W) : Below w0.heap.size w0 W := by
 obtain⟨_,_,_,_,bl,_⟩:=h1
 exact bl
theorem R_curI {α : Type} {d : Kd α} {w0 w W W' : World} {b : List Int} {g e base : Nat} {ok : Nat → Prop} {v : Value} {xs : List α} (he : ∀ q, q ∈ e :: d.E → q ≠ 84) (h : d.R e W base ok v xs) (h1 : CurQ w0 b g w W) (h2 : CurQ w0 b g W W') : d.R e W' base ok v xs := by
 obtain⟨_,_,_,q,_,_⟩:=h1
 obtain⟨_,_,_,_,_,k⟩:=h2
 exact Kd.R_mono (Kd.R_keep (IsS84.apart q h he) k (fun _ hk=>hk.2)) (fun _ hk=>hk.1)
theorem cur_append {α : Type} {d : Kd α} {w0 w W W' : World} {b : List Int} {g e base : Nat} {v : Value} {xs : List α} (he : e ≠ 84) (h1 : CurQ w0 b g w W) (ho : d.R e W base (fun k => w.heap.size ≤ k) v xs) (hg : W.grownBy W' v.ownBlock) (hb : Below w0.heap.size w0 W') : CurQ w0 b g w W' := by
 obtain⟨i,h,s,q,bl,k⟩:=h1
 refine⟨i,h,s,IsS84.grown q hg (q.own_ne ho he),hb,KeepBut.trans k (KeepBut.of_grown hg g) ?_⟩
 cases hv:v.ownBlock with
 | none => exact .inl rfl
 | some x => exact .inr ⟨x, rfl, ho.1 x hv⟩
theorem cur_below {w0 w W : World} {b : List Int} {g : Nat} (n : Int) (h : CurQ w0 b g w W) :
  Calls Try.prog 65 #[.pointer (some ⟨g,0,none⟩),.int .i64 n] W fun e w'=>∃ r:Int,e=.returned (.int .i64 r)∧(0≤r∧(0 < n→r < n))∧CurQ w0 b g W w':=by
 obtain⟨i,h',s,q,bl,k⟩:=h
 obtain⟨⟨r1,r2,r3⟩,hf,hr,hs⟩:=below_some h' n s
 refine(spec_l1Below.calls g b i h' n r1 r2 r3 w0 W q bl hf).mono ?_
 rintro e w' ⟨rfl,hI,hB,hK⟩
 exact⟨r1,rfl,hr,r2,r3,hs,hI,hB,hK⟩
theorem cur_once {w0 w W : World} {b : List Int} {g : Nat} (n : Int) (h : CurQ w0 b g w W) :
  Calls Try.prog 64 #[.pointer (some ⟨g,0,none⟩),.int .i64 n] W fun e w'=>∃ r:Bool,e=.returned (.bool r)∧CurQ w0 b g W w':=by
 obtain⟨i,h',s,q,bl,k⟩:=h
 obtain⟨⟨r1,r2,r3⟩,hf,hs⟩:=once_some h' n s
 refine(spec_l1Once.calls g b i h' n r1 r2 r3 w0 W q bl hf).mono ?_
 rintro e w' ⟨rfl,hI,hB,hK⟩
 exact⟨r1,rfl,r2,r3,hs,hI,hB,hK⟩
theorem cur_from {w0 w W : World} {b : List Int} {g : Nat} (lo hi : Int) (h1 : -1000000000000 ≤ lo) (h2 : lo ≤ hi) (h3 : hi ≤ 1000000000000) (h : CurQ w0 b g w W) :
  Calls Try.prog 63 #[.pointer (some ⟨g,0,none⟩),.int .i64 lo,.int .i64 hi] W fun e w'=>∃ r:Int,e=.returned (.int .i64 r)∧(lo≤r∧r≤hi)∧CurQ w0 b g W w':=by
 obtain⟨i,h',s,q,bl,k⟩:=h
 obtain⟨⟨r1,r2,r3⟩,hf,hr,hs⟩:=from_some h' lo hi s h1 h2 h3
 refine(spec_l1From.calls g b i h' lo hi r1 r2 r3 w0 W q bl hf).mono ?_
 rintro e w' ⟨rfl,hI,hB,hK⟩
 exact⟨r1,rfl,hr,r2,r3,hs,hI,hB,hK⟩
def Blk (w W : World) (gp : Nat) (cs : Array Value) : Prop := w.heap.size ≤ gp ∧ W.heap[gp]? = some (.cells cs 27 (0, 0))
def PV (w0 w W : World) (gp : Nat) (a c : Int) (xs : List Int) : Prop := ∃ v, Blk w W gp #[.int .i64 a, .int .i64 c, v] ∧ Kd.R (Kd.int .i64) 2 W w0.heap.size (fun k => w.heap.size ≤ k) v xs
theorem Blk.cur {w0 w W W' : World} {b : List Int} {g gp : Nat} {cs : Array Value} (h : Blk w W gp cs) (h1 : CurQ w0 b g w W) (h2 : CurQ w0 b g W W') : Blk w W' gp cs := by
 obtain⟨hg,hb⟩:=h
 obtain⟨_,_,_,q,_,_⟩:=h1
 obtain⟨_,_,_,_,_,k⟩:=h2
 exact⟨hg,(k.2 gp (blk_lt hb) (fun e=>q.ne_blk hb (by decide) e.symm) (by simp)).trans hb⟩
theorem Blk.alloc {w W : World} {gp : Nat} {cs : Array Value} (h : Blk w W gp cs) (o : Obj) : Blk w (W.alloc o) gp cs := ⟨h.1, blk_alloc h.2 o⟩
theorem Blk.drewN {w W : World} {gp : Nat} {cs : Array Value} (h : Blk w W gp cs) (n : Nat) : Blk w (W.drewN n) gp cs := h
theorem Blk.al : type_of% @Blk.alloc := @Blk.alloc
theorem Blk.dn : type_of% @Blk.drewN := @Blk.drewN
theorem CurQ.al : type_of% @CurQ.alloc := @CurQ.alloc
theorem CurQ.dn : type_of% @CurQ.drewN := @CurQ.drewN
theorem Blk.below {w W W' : World} {gp : Nat} {cs : Array Value} (h : Blk w W gp cs) (hb : Below W.heap.size W W') : Blk w W' gp cs := ⟨h.1, blk_below h.2 hb⟩
theorem Blk.far {w W : World} {gp : Nat} {cs : Array Value} (h : Blk w W gp cs) {p : Addr} (hp : gp ≠ p.block) (u : Value) : Blk w (W.setCell p u) gp cs := ⟨h.1, blk_far h.2 hp u⟩
theorem Blk.put {w W : World} {gp : Nat} {cs : Array Value} (h : Blk w W gp cs) (i : Nat) (u : Value) : Blk w (W.setCell ⟨gp, i, none⟩ u) gp (cs.setIfInBounds i u) := ⟨h.1, blk_put h.2 i u rfl⟩
theorem CurQ.setB {w0 w W : World} {b : List Int} {g gp : Nat} {cs : Array Value} (h1 : CurQ w0 b g w W) (h : Blk w W gp cs) (i : Nat) (u : Value) (hw : w0.heap.size ≤ w.heap.size) : CurQ w0 b g w (W.setCell ⟨gp, i, none⟩ u) := by
 obtain⟨i',h',s,q,bl,k⟩:=h1
 exact⟨i',h',s,IsS84.far q (q.ne_blk h.2 (by decide)) u,below_set bl (Nat.le_trans hw h.1),keep_far k h.1 u⟩
theorem PV.cur {w0 w W W' : World} {b : List Int} {g gp : Nat} {a c : Int} {xs : List Int} (h : PV w0 w W gp a c xs) (h1 : CurQ w0 b g w W) (h2 : CurQ w0 b g W W') : PV w0 w W' gp a c xs := by
 obtain⟨v,hb,hr⟩:=h
 exact⟨v,hb.cur h1 h2,R_curI (by decide) hr h1 h2⟩
theorem PV.alloc {w0 w W : World} {gp : Nat} {a c : Int} {xs : List Int} (h : PV w0 w W gp a c xs) (o : Obj) : PV w0 w (W.alloc o) gp a c xs := by
 obtain⟨v,hb,hr⟩:=h
 exact⟨v,hb.alloc o,Oe hr o⟩
theorem PV.drewN {w0 w W : World} {gp : Nat} {a c : Int} {xs : List Int} (h : PV w0 w W gp a c xs) (n : Nat) : PV w0 w (W.drewN n) gp a c xs := h
theorem PV.open_ {w0 w W : World} {gp : Nat} {a c : Int} {xs : List Int} (h : PV w0 w W gp a c xs) : ∃ A cc, Blk w W gp #[.int .i64 a, .int .i64 c, .slice A xs.length cc] ∧ Kd.R (Kd.int .i64) 2 W w0.heap.size (fun k => w.heap.size ≤ k) (.slice A xs.length cc) xs ∧ (W.cell? ⟨gp, 0, none⟩ = some (.int .i64 a) ∧ W.cell? ⟨gp, 1, none⟩ = some (.int .i64 c) ∧ W.cell? ⟨gp, 2, none⟩ = some (.slice A xs.length cc)) ∧ (W.frozen? ⟨gp, 0, none⟩ = false ∧ W.frozen? ⟨gp, 1, none⟩ = false ∧ W.frozen? ⟨gp, 2, none⟩ = false) := by
 obtain⟨v,hb,hr⟩:=h
 obtain⟨A,cc,rfl⟩:=Kd.R_slice hr
 exact⟨A,cc,hb,hr,⟨(Oc hb.2 0).trans rfl,(Oc hb.2 1).trans rfl,(Oc hb.2 2).trans rfl⟩,Ob hb.2 0,Ob hb.2 1,Ob hb.2 2⟩
theorem finfoI : (Try.prog.info? 2).map (fun i => (i.zero, i.size, i.bytes)) = some (some (.int .i64 0), 1, 8) := by kernel_rfl
theorem R_appendi {P : Program} {ops : Array Oper} {rest : List Oper} {o : Oper} {a : Act} {Q : Exit → Act → World → Prop} {w0 W : World} {b : Int} (base : Nat) (hgd : o.guard = none) (s x : Operand) (t e : TypeId)
  (ho:o.op=.call { callee:=.builtin .append,args:=#[s,x],argTypes:=#[t,t] })
  (ht:P.underlying t=some (.slice e)) (hinfo:(P.info? e).map (fun i=>(i.zero,i.size,i.bytes))=some (some (.int .i64 0),1,8))
  (v:Value) (xs:List Int) (ok:Nat→Prop) (hs:a.eval s=v) (hx:a.eval x=.slice (some ⟨W.heap.size,0,none⟩) 1 1) (hfresh:∀ k,W.heap.size≤k→ok k)
  (HO:Kd.R (Kd.int .i64) e W base ok v xs) (HB:Below base w0 W) (hbase:base≤W.heap.size) (hl:(xs.length+1)*8≤140737488355328)
  (h:∀ v1 w1 (ys:List Int),ys.length=xs.length+1→Kd.R (Kd.int .i64) e w1 base ok v1 ys→Below base w0 w1→W.grownBy w1 v.ownBlock→wpList P ops Q rest (a.put o.dst v1) w1) :
  wpList P ops Q (o :: rest) a (W.alloc (.cells #[.int .i64 b] e)):=
 Kd.R_append (Kd.int .i64) base hgd s x t e (.int .i64 0) 8 ho ht hinfo rfl (by decide) (by omega) v xs b [.int .i64 b] ok (fun _=>False) hs hx rfl (fun _ hk=>hk.elim) hfresh HO HB hbase hl (fun v1 w1 h1 h2 h3 _=>h v1 w1 (xs ++ [b]) (by simp) h1 h2 h3)
theorem PV.put {w0 w W : World} {gp : Nat} {a c : Int} {u v : Value} {xs : List Int} (hb : Blk w W gp #[.int .i64 a, .int .i64 c, u]) (hr : Kd.R (Kd.int .i64) 2 W w0.heap.size (fun k => w.heap.size ≤ k) v xs) : PV w0 w (W.setCell ⟨gp, 2, none⟩ v) gp a c xs :=
 ⟨v,hb.put 2 v,Kd.R_mono (Kd.R_far (p:=⟨gp,2,none⟩) (Kd.R_types hr hb.2 (by decide)) (fun _ hk=>hk.2) v) (fun _ hk=>hk.1)⟩
theorem Blk.grown {w W W' : World} {gp base : Nat} {cs : Array Value} {v : Value} {xs : List Int} {ok : Nat → Prop} (h : Blk w W gp cs) (hr : Kd.R (Kd.int .i64) 2 W base ok v xs) (hg : W.grownBy W' v.ownBlock) : Blk w W' gp cs := ⟨h.1, blk_grown h.2 hg (Kd.R_ne hr h.2 (by decide))⟩
theorem Blk.set3 {w W : World} {gp : Nat} {u0 u1 u2 : Value} (h : Blk w W gp #[u0, u1, u2]) (x y z : Value) : Blk w (((W.setCell ⟨gp, 0, none⟩ x).setCell ⟨gp, 1, none⟩ y).setCell ⟨gp, 2, none⟩ z) gp #[x, y, z] := ((h.put 0 x).put 1 y).put 2 z
theorem Blk.far3 {w W : World} {gq gp : Nat} {cs : Array Value} (h : Blk w W gq cs) (hne : gq ≠ gp) (x y z : Value) : Blk w (((W.setCell ⟨gp, 0, none⟩ x).setCell ⟨gp, 1, none⟩ y).setCell ⟨gp, 2, none⟩ z) gq cs := ((h.far (p := ⟨gp, 0, none⟩) hne x).far (p := ⟨gp, 1, none⟩) hne y).far (p := ⟨gp, 2, none⟩) hne z
theorem CurQ.set3 {w0 w W : World} {b : List Int} {g gp : Nat} {u0 u1 u2 : Value} (h1 : CurQ w0 b g w W) (h : Blk w W gp #[u0, u1, u2]) (hw : w0.heap.size ≤ w.heap.size) (x y z : Value) : CurQ w0 b g w (((W.setCell ⟨gp, 0, none⟩ x).setCell ⟨gp, 1, none⟩ y).setCell ⟨gp, 2, none⟩ z) := ((h1.setB h 0 x hw).setB (h.put 0 x) 1 y hw).setB ((h.put 0 x).put 1 y) 2 z hw
theorem R_set3 {w W : World} {gp base : Nat} {cs : Array Value} {v : Value} {xs : List Int} {ok : Nat → Prop} (hr : Kd.R (Kd.int .i64) 2 W base ok v xs) (h : Blk w W gp cs) (x y z : Value) : Kd.R (Kd.int .i64) 2 (((W.setCell ⟨gp, 0, none⟩ x).setCell ⟨gp, 1, none⟩ y).setCell ⟨gp, 2, none⟩ z) base ok v xs :=
 Kd.R_mono (Kd.R_far (p:=⟨gp,2,none⟩) (Kd.R_far (p:=⟨gp,1,none⟩) (Kd.R_far (p:=⟨gp,0,none⟩) (Kd.R_types hr h.2 (by decide)) (fun _ hk=>hk.2) x) (fun _ hk=>hk.2) y) (fun _ hk=>hk.2) z) (fun _ hk=>hk.1)
theorem PV.far3 {w0 w W : World} {gq gp : Nat} {a c : Int} {xs : List Int} {u0 u1 u2 : Value} (h : PV w0 w W gq a c xs) (hp : Blk w W gp #[u0, u1, u2]) (hne : gq ≠ gp) (x y z : Value) : PV w0 w (((W.setCell ⟨gp, 0, none⟩ x).setCell ⟨gp, 1, none⟩ y).setCell ⟨gp, 2, none⟩ z) gq a c xs := by
 obtain⟨v,hb,hr⟩:=h
 exact⟨v,hb.far3 hne x y z,R_set3 hr hp x y z⟩
theorem min_eq_i (a c : Int) : spec_l1Min.f a c = some (min a c) := by
 unfold spec_l1Min.f
 split
 ·congr 1;omega
 ·congr 1;omega
theorem PV.below {w0 w W W' : World} {gp : Nat} {a c : Int} {xs : List Int} (h : PV w0 w W gp a c xs) (hb : Below W.heap.size W W') : PV w0 w W' gp a c xs := by
 obtain⟨v,hbk,hr⟩:=h
 exact⟨v,hbk.below hb,Kd.R_below hr hb⟩
theorem side_of (r : Int) (h1 : 0 ≤ r) (h2 : r < 3) : wrap64 (1 + r) = 1 + r ∧ ∃ a : Int, wrap64 (4 * (1 + r)) = a ∧ (a = 4 ∨ a = 8 ∨ a = 12) := by
 refine⟨by unfold wrap64;omega,4*(1+r),by unfold wrap64;omega,by omega⟩
theorem sides {a c : Int} (h1 : a = 4 ∨ a = 8 ∨ a = 12) (h2 : c = 4 ∨ c = 8 ∨ c = 12) : ∃ n : Nat, a * c = (n : Int) ∧ 16 ≤ n ∧ n ≤ 144 := by
 rcases h1 with rfl|rfl|rfl <;> rcases h2 with rfl|rfl|rfl
 ·exact⟨16,rfl,by omega,by omega⟩
 ·exact⟨32,rfl,by omega,by omega⟩
 ·exact⟨48,rfl,by omega,by omega⟩
 ·exact⟨32,rfl,by omega,by omega⟩
 ·exact⟨64,rfl,by omega,by omega⟩
 ·exact⟨96,rfl,by omega,by omega⟩
 ·exact⟨48,rfl,by omega,by omega⟩
 ·exact⟨96,rfl,by omega,by omega⟩
 ·exact⟨144,rfl,by omega,by omega⟩
theorem PV.make {w0 w W : World} {gp : Nat} {u0 u1 u2 v : Value} {xs : List Int} (hb : Blk w W gp #[u0, u1, u2]) (a c : Int) (hr : Kd.R (Kd.int .i64) 2 W w0.heap.size (fun k => w.heap.size ≤ k) v xs) : PV w0 w (((W.setCell ⟨gp, 0, none⟩ (.int .i64 a)).setCell ⟨gp, 1, none⟩ (.int .i64 c)).setCell ⟨gp, 2, none⟩ v) gp a c xs :=
 ⟨v,hb.set3 _ _ _,R_set3 hr hb _ _ _⟩
theorem lit_i {w : World} {base : Nat} {ok : Nat → Prop} (xs : List Int) : Reps (Kd.M (Kd.int .i64) w base ok) 1 xs (xs.map (Value.int .i64)) := by
 refine⟨by simp,fun j p hj=>?_⟩
 have hb:(xs.map (Value.int .i64))[j]? = some (.int .i64 p):=by rw [List.getElem?_map,hj];rfl
 obtain⟨hlt,he⟩:=List.getElem?_eq_some_iff.1 hb
 show((((xs.map (Value.int .i64)).drop (j*1)).take 1) = [Value.int .i64 p])
 rw [Nat.mul_one,List.drop_eq_getElem_cons hlt,he]
 rfl
theorem PV.far {w0 w W : World} {gq gp j : Nat} {a c : Int} {xs : List Int} {cs : Array Value} (h : PV w0 w W gq a c xs) (hp : Blk w W gp cs) (hne : gq ≠ gp) (x : Value) : PV w0 w (W.setCell ⟨gp, j, none⟩ x) gq a c xs := by
 obtain⟨v,hb,hr⟩:=h
 exact⟨v,hb.far (p:=⟨gp,j,none⟩) hne x,Kd.R_mono (Kd.R_far (p:=⟨gp,j,none⟩) (Kd.R_types hr hp.2 (by decide)) (fun _ hk=>hk.2) x) (fun _ hk=>hk.1)⟩
theorem v_cut {w W : World} {g2 g3 g7 base cc : Nat} {c2 c3 c7 : Array Value} {A : Option Addr} {xs : List Int} (h : Kd.R (Kd.int .i64) 2 W base (fun k => w.heap.size ≤ k) (.slice A xs.length cc) xs) (h2 : Blk w W g2 c2) (h3 : Blk w W g3 c3) (h7 : Blk w W g7 c7) (hl : 1 ≤ xs.length) : Kd.V (Kd.int .i64) 2 W base (fun k => ((w.heap.size ≤ k ∧ k ≠ g2) ∧ k ≠ g3) ∧ k ≠ g7) (.slice (if cc = 1 then A else A.map (·.add (1 * 1))) (xs.length - 1) (cc - 1)) (xs.drop 1) := by
 have hc:=(Kd.R_reads' h).2.1
 have r:=Kd.R_types (Kd.R_types (Kd.R_types h h2.2 (by decide)) h3.2 (by decide)) h7.2 (by decide)
 have f:=Kd.F_cut (Kd.R_F r) hl hc
 have v:=Kd.V_mk (e:=2) (base:=base) (c:=cc - 1) (by rw [List.length_drop];omega) f
 rw [List.length_drop] at v
 exact v
theorem V_set3 {W : World} {gp base : Nat} {v : Value} {xs : List Int} {ok : Nat → Prop} (h : Kd.V (Kd.int .i64) 2 W base ok v xs) (hok : ∀ k, ok k → k ≠ gp) (x y z : Value) : Kd.V (Kd.int .i64) 2 (((W.setCell ⟨gp, 0, none⟩ x).setCell ⟨gp, 1, none⟩ y).setCell ⟨gp, 2, none⟩ z) base ok v xs :=
 Kd.V_far (p:=⟨gp,2,none⟩) (Kd.V_far (p:=⟨gp,1,none⟩) (Kd.V_far (p:=⟨gp,0,none⟩) h hok x) hok y) hok z
theorem R_okx {w W : World} {g2 g3 base : Nat} {c2 c3 : Array Value} {v : Value} {xs : List Int} (h : Kd.R (Kd.int .i64) 2 W base (fun k => w.heap.size ≤ k) v xs) (h2 : Blk w W g2 c2) (h3 : Blk w W g3 c3) : Kd.V (Kd.int .i64) 2 W base (fun k => (w.heap.size ≤ k ∧ k ≠ g2) ∧ k ≠ g3) v xs := Kd.R_V (Kd.R_types (Kd.R_types h h2.2 (by decide)) h3.2 (by decide))
theorem Blk.drew {w W : World} {gp : Nat} {cs : Array Value} (h : Blk w W gp cs) : Blk w W.drew gp cs := h
theorem CurQ.drew {w0 w W : World} {b : List Int} {g : Nat} (h1 : CurQ w0 b g w W) : CurQ w0 b g w W.drew := h1.drewN 1
theorem at_all {a c : Int} {xs : List Int} (ha : a = 4 ∨ a = 8 ∨ a = 12) (hc : c = 4 ∨ c = 8 ∨ c = 12) (hl : (xs.length : Int) = a * c) (x y : Int) : ∃ r, spec_l14At.f a c xs x y = some r := by
 have hmax:∀ z,spec_l1Max.f 0 z=some (max 0 z):=by
  intro z;unfold spec_l1Max.f;split
  ·congr 1;omega
  ·congr 1;omega
 have hmin:∀ z u,spec_l1Min.f z u=some (min z u):=min_eq_i
 unfold spec_l14At.f
 simp only [hmax,hmin,Option.bind_some]
 have e1:wrap64 (a - 1)=a - 1:=w64 (by omega) (by omega)
 have e2:wrap64 (c - 1)=c - 1:=w64 (by omega) (by omega)
 rw [e1,e2]
 obtain⟨u,hu⟩:∃ u,u=min (a - 1) (max 0 x):=⟨_,rfl⟩
 obtain⟨v,hv⟩:∃ v,v=min (c - 1) (max 0 y):=⟨_,rfl⟩
 rw [← hu,← hv]
 have hu2:0≤u∧u≤a - 1:=by omega
 have hv2:0≤v∧v≤c - 1:=by omega
 have h:0≤v*a+u∧v*a+u < a*c∧0≤v*a∧v*a≤1000:=by
  rcases ha with rfl|rfl|rfl <;> omega
 have e3:wrap64 (v*a)=v*a:=w64 (by omega) (by omega)
 have e4:wrap64 (v*a+u)=v*a+u:=w64 (by omega) (by omega)
 rw [e3,e4,if_pos h.1,if_pos (by omega)]
 exact⟨_,rfl⟩
theorem at_calls {a c : Int} {xs : List Int} {A : Option Addr} {cc : Nat} {w : World} (ha : a = 4 ∨ a = 8 ∨ a = 12) (hc : c = 4 ∨ c = 8 ∨ c = 12) (hl : (xs.length : Int) = a * c) (x y : Int) (hr : Kd.C (Kd.int .i64) w A xs.length xs) (hcc : xs.length ≤ cc) :
  Calls Try.prog 93 #[.agg #[.int .i64 a,.int .i64 c,.slice A xs.length cc],.int .i64 x,.int .i64 y] w fun e w'=>∃ r:Int,e=.returned (.int .i64 r)∧Below w.heap.size w w':=by
 obtain⟨r,h⟩:=at_all ha hc hl x y
 refine(spec_l14At.calls a c A cc xs x y r w hr hcc h).mono ?_
 rintro e w' ⟨rfl,hb⟩
 exact⟨r,rfl,hb⟩
theorem R_appendh {P : Program} {ops : Array Oper} {rest : List Oper} {o : Oper} {a : Act} {Q : Exit → Act → World → Prop} {w0 W : World} {b : Int} (base : Nat) (hgd : o.guard = none) (s x : Operand) (t e : TypeId)
  (ho:o.op=.call { callee:=.builtin .append,args:=#[s,x],argTypes:=#[t,t] })
  (ht:P.underlying t=some (.slice e)) (hinfo:(P.info? e).map (fun i=>(i.zero,i.size,i.bytes))=some (some (.int .i64 0),1,8))
  (v:Value) (xs:List Int) (ok:Nat→Prop) (hs:a.eval s=v) (hx:a.eval x=.slice (some ⟨W.heap.size,0,none⟩) 1 1) (hfresh:∀ k,W.heap.size≤k→ok k)
  (HO:Kd.R (Kd.int .i64) e W base ok v xs) (HB:Below base w0 W) (hbase:base≤W.heap.size) (hl:(xs.length+1)*8≤140737488355328)
  (h:∀ v1 w1 (ys:List Int),ys.length=xs.length+1→Kd.R (Kd.int .i64) e w1 base ok v1 ys→Below base w0 w1→W.grownBy w1 v.ownBlock→(v1.ownBlock=v.ownBlock ∨ ∃ b,v1.ownBlock=some b∧W.heap.size≤b)→wpList P ops Q rest (a.put o.dst v1) w1) :
  wpList P ops Q (o :: rest) a (W.alloc (.cells #[.int .i64 b] e)):=
 Kd.R_append (Kd.int .i64) base hgd s x t e (.int .i64 0) 8 ho ht hinfo rfl (by decide) (by omega) v xs b [.int .i64 b] ok (fun _=>False) hs hx rfl (fun _ hk=>hk.elim) hfresh HO HB hbase hl (fun v1 w1 h1 h2 h3 h4=>h v1 w1 (xs ++ [b]) (by simp) h1 h2 h3 h4)
theorem R_setB {w W : World} {gp j base : Nat} {cs : Array Value} {v : Value} {xs : List Int} {ok : Nat → Prop} (hr : Kd.R (Kd.int .i64) 2 W base ok v xs) (h : Blk w W gp cs) (x : Value) : Kd.R (Kd.int .i64) 2 (W.setCell ⟨gp, j, none⟩ x) base ok v xs :=
 Kd.R_mono (Kd.R_far (p:=⟨gp,j,none⟩) (Kd.R_types hr h.2 (by decide)) (fun _ hk=>hk.2) x) (fun _ hk=>hk.1)
theorem side_ne {a : Int} (h : a = 4 ∨ a = 8 ∨ a = 12) : (a == 0) = false ∧ (a = 0) = False := ⟨beq_eq_false_iff_ne.2 (by omega), eq_false (by omega)⟩
theorem wrap_n {x : Int} {n : Nat} (h : x = (n : Int)) (hn : n ≤ 1000) : wrap64 x = (n : Int) := by rw [h]; unfold wrap64; omega
theorem wrap_i {i n : Nat} (h : i < n) (hn : n ≤ 1000) : wrap64 ((i : Int) + 1) = ((i + 1 : Nat) : Int) := by unfold wrap64; omega
theorem app_lim {xs : List Int} {i n : Nat} (h : xs.length = i) (h1 : i < n) (hn : n ≤ 1000) : (xs.length + 1) * 8 ≤ 140737488355328 := by omega
theorem len_nat {xs : List Int} {n : Nat} {a c : Int} (h : xs.length = n) (h2 : a * c = (n : Int)) : (xs.length : Int) = a * c := by rw [h, h2]
theorem R_apart0 {w W : World} {base : Nat} {v : Value} {xs : List Int} (h : Kd.R (Kd.int .i64) 2 W base (fun k => w.heap.size ≤ k) v xs) : Kd.R (Kd.int .i64) 2 W base (fun k => w.heap.size ≤ k ∧ some k ≠ (Value.slice none 0 0).ownBlock) v xs := Kd.R_mono h (fun k hk => ⟨hk, by simp [Value.ownBlock]⟩)
theorem PV.drew {w0 w W : World} {gp : Nat} {a c : Int} {xs : List Int} (h : PV w0 w W gp a c xs) : PV w0 w W.drew gp a c xs := h
theorem sub_lt2_ {n i gk : Nat} (h : n - i ≤ gk) (hlt : i < n) : n - (i + 1) < gk := by omega
theorem CurQ.setR {w0 w W : World} {b : List Int} {g go : Nat} {cs : Array Value} (h1 : CurQ w0 b g w W) (hg : W.heap[go]? = some (.cells cs 2 (0, 0))) (hle : w.heap.size ≤ go) (i : Nat) (u : Value) (hw : w0.heap.size ≤ w.heap.size) : CurQ w0 b g w (W.setCell ⟨go, i, none⟩ u) := by
 obtain⟨i',h',s,q,bl,k⟩:=h1
 exact⟨i',h',s,IsS84.far q (q.ne_blk hg (by decide)) u,below_set bl (Nat.le_trans hw hle),keep_far k hle u⟩
theorem own_ne_ {go gp : Nat} {n c : Nat} (h : some gp ≠ (Value.slice (some ⟨go, 0, none⟩) n c).ownBlock) : gp ≠ go := fun e => h (by rw [e]; rfl)
structure TwoQ (w0 w W : World) (b : List Int) (g g2 g3 g6 g7 n : Nat) (a c : Int) (A6 : Option Addr) (c6 : Nat) (xs6 : List Int) (A7 : Option Addr) (c7 : Nat) (xs7 : List Int) : Prop where
 l7 : xs7.length = n
 z2 : Blk w W g2 #[.int .i64 0, .int .i64 0, .slice none 0 0]
 z3 : Blk w W g3 #[.int .i64 0, .int .i64 0, .slice none 0 0]
 b6 : Blk w W g6 #[.int .i64 a, .int .i64 c, .slice A6 xs6.length c6]
 b7 : Blk w W g7 #[.int .i64 a, .int .i64 c, .slice A7 xs7.length c7]
 r6 : Kd.R (Kd.int .i64) 2 W w0.heap.size (fun k => w.heap.size ≤ k ∧ some k ≠ (Value.slice A7 xs7.length c7).ownBlock) (.slice A6 xs6.length c6) xs6
 r7 : Kd.R (Kd.int .i64) 2 W w0.heap.size (fun k => w.heap.size ≤ k) (.slice A7 xs7.length c7) xs7
 cu : CurQ w0 b g w W
theorem Blk.drew_ {w W : World} {gp : Nat} {cs : Array Value} (h : Blk w W gp cs) : Blk w W.drew gp cs := h
theorem R_apart_ {w0 w W W' : World} {b : List Int} {g : Nat} {v6 v7 : Value} {xs ys : List Int} (h : Kd.R (Kd.int .i64) 2 W w0.heap.size (fun k => w.heap.size ≤ k) v6 xs) (h1 : CurQ w0 b g w W) (h2 : CurQ w0 b g W W') (h7 : Kd.R (Kd.int .i64) 2 W' w0.heap.size (fun k => W.heap.size ≤ k) v7 ys) : Kd.R (Kd.int .i64) 2 W' w0.heap.size (fun k => w.heap.size ≤ k ∧ some k ≠ v7.ownBlock) v6 xs :=
 Kd.R_mono (R_curI (by decide) (Kd.R_bound h) h1 h2) (fun k hk=>⟨hk.1,fun e=>by have h3:=h7.1 k e.symm;have h4:=hk.2.2.1;omega⟩)
theorem cur_new {w : World} {A0 : Option Addr} {c0 : Nat} {l0 : List Int} (hr0 : Kd.C (Kd.int .u8) w A0 l0.length l0) (hc0 : l0.length ≤ c0) (hl : l0.length ≤ 4096) :
  Calls Try.prog 62 #[.slice A0 l0.length c0] w fun e w'=>∃ g:Nat,e=.returned (.pointer (some ⟨g,0,none⟩))∧CurQ w l0 g w' w':=by
 obtain⟨⟨r1,r2,r3⟩,⟨k,hk⟩,hc,hs⟩:=new_ev l0 hl
 simp only at hc hs
 subst hc
 refine(spec_l1New.calls k A0 c0 r1 r1 r2 r3 w w (Below.refl _ _) hr0 hc0 (hk k (Nat.le_refl _))).mono ?_
 rintro e w' ⟨g,rfl,hI,hB,hB2⟩
 exact⟨g,rfl,CurQ.refl hs hI hB⟩
theorem cur_lt {w0 w W : World} {b : List Int} {g : Nat} (h : CurQ w0 b g w W) : g < W.heap.size := by
 obtain⟨_,_,_,q,_,_⟩:=h
 exact q.lt
theorem Blk.curx {wb w0 w W W' : World} {b : List Int} {g gp : Nat} {cs : Array Value} (h : Blk wb W gp cs) (h1 : CurQ w0 b g w W) (h2 : CurQ w0 b g W W') : Blk wb W' gp cs := by
 obtain⟨hg,hb⟩:=h
 obtain⟨_,_,_,q,_,_⟩:=h1
 obtain⟨_,_,_,_,_,k⟩:=h2
 exact⟨hg,(k.2 gp (blk_lt hb) (fun e=>q.ne_blk hb (by decide) e.symm) (by simp)).trans hb⟩
theorem V_curx {w0 W W' : World} {b : List Int} {g base : Nat} {ok : Nat → Prop} {v : Value} {xs : List Int} (h : Kd.V (Kd.int .i64) 2 W base ok v xs) (h2 : CurQ w0 b g W W') (hok : ∀ k, ok k → k ≠ g) : Kd.V (Kd.int .i64) 2 W' base ok v xs := by
 obtain⟨_,_,_,_,_,k⟩:=h2
 exact Kd.V_keep h k hok
theorem results_cct {fn : Func} {p p' u : Tmp} (h : fn.results = #[.cell p 27, .cell p' 27, .tmp u]) (tmps : Array Value) (w : World) (g g' : Nat) (cs cs' : Array Value) (hs : cs.size = 3) (hs' : cs'.size = 3)
  (hp:tmps.getD p undef=.pointer (some ⟨g,0,none⟩)) (hg:w.heap[g]? = some (.cells cs 27 (0,0)))
  (hp':tmps.getD p' undef=.pointer (some ⟨g',0,none⟩)) (hg':w.heap[g']? = some (.cells cs' 27 (0,0))) :
  (results fn tmps).run Try.prog w=.ok (.tuple #[.agg cs,.agg cs',tmps.getD u undef]) w:=by
 have h1:tmps[p]?.getD undef=.pointer (some ⟨g,0,none⟩):=by simpa using hp
 have h2:tmps[p']?.getD undef=.pointer (some ⟨g',0,none⟩):=by simpa using hp'
 have hi:(Try.prog.info? 27).map (·.size)=some cs.size:=by rw [hs];kernel_rfl
 have hi':(Try.prog.info? 27).map (·.size)=some cs'.size:=by rw [hs'];kernel_rfl
 simp [results,h,h1,h2,asAddr,run_loadVar_row w g 27 27 cs (0,0) _ hg Try.underlying27 rfl hi,run_loadVar_row w g' 27 27 cs' (0,0) _ hg' Try.underlying27 rfl hi']
def Row2 (W : World) (lo hi : Nat) (v : Value) (xs : List Int) : Prop := Kd.V (Kd.int .i64) 2 W 0 (fun k => lo ≤ k ∧ k < hi) v xs
theorem Row2.of {W : World} {base lo : Nat} {v : Value} {xs : List Int} (h : Kd.V (Kd.int .i64) 2 W base (fun k => lo ≤ k) v xs) : Row2 W lo W.heap.size v xs := Kd.V_lower (Kd.V_map (Kd.V_bound h) (fun _ hf => hf)) (Nat.le_refl 0)
theorem Row2.below {W W' : World} {lo hi : Nat} {v : Value} {xs : List Int} (h : Row2 W lo hi v xs) (hb : Below W.heap.size W W') : Row2 W' lo hi v xs := Kd.V_below h hb
theorem Row2.alloc {W : World} {lo hi : Nat} {v : Value} {xs : List Int} (h : Row2 W lo hi v xs) (o : Obj) : Row2 (W.alloc o) lo hi v xs := Kd.V_alloc h o
theorem Row2.drewN {W : World} {lo hi : Nat} {v : Value} {xs : List Int} (h : Row2 W lo hi v xs) (n : Nat) : Row2 (W.drewN n) lo hi v xs := Kd.V_drewN h n
theorem Row2.drew {W : World} {lo hi : Nat} {v : Value} {xs : List Int} (h : Row2 W lo hi v xs) : Row2 W.drew lo hi v xs := Oh h
theorem Row2.cur {w0 W W' : World} {b : List Int} {g lo hi : Nat} {v : Value} {xs : List Int} (h : Row2 W lo hi v xs) (h2 : CurQ w0 b g W W') (hg : g < lo) : Row2 W' lo hi v xs := V_curx h h2 (fun k hk => by omega)
theorem Row2.set3 {W : World} {lo hi gp : Nat} {v : Value} {xs : List Int} (h : Row2 W lo hi v xs) (hg : gp < lo ∨ hi ≤ gp) (x y z : Value) : Row2 (((W.setCell ⟨gp, 0, none⟩ x).setCell ⟨gp, 1, none⟩ y).setCell ⟨gp, 2, none⟩ z) lo hi v xs :=
 have hok:∀ k,(lo≤k∧k < hi)→k≠gp:=fun k hk=>by omega
 Kd.V_far (p:=⟨gp,2,none⟩) (Kd.V_far (p:=⟨gp,1,none⟩) (Kd.V_far (p:=⟨gp,0,none⟩) h hok x) hok y) hok z
theorem below_set3 {w W : World} {gp : Nat} (h : Below w.heap.size w W) (hg : w.heap.size ≤ gp) (x y z : Value) : Below w.heap.size w (((W.setCell ⟨gp, 0, none⟩ x).setCell ⟨gp, 1, none⟩ y).setCell ⟨gp, 2, none⟩ z) := below_set (below_set (below_set h hg) hg) hg

set_option maxHeartbeats 4000000 in
set_option maxRecDepth 100000 in
theorem spec_l14DrawPicture.calls {b : List Int} {g : Nat} {w0 wc w : World} (h : CurQ w0 b g wc w) (a c : Int) (n : Nat) (hn : a * c = (n : Int)) (hn2 : n ≤ 1000) :
  Calls Try.prog 92 #[.pointer (some ⟨g,0,none⟩),.int .i64 a,.int .i64 c] w fun e w'=>∃ (v:Value) (xs:List Int),e=.returned (.agg #[.int .i64 a,.int .i64 c,v])∧Kd.R (Kd.int .i64) 2 w' w0.heap.size (fun k=>w.heap.size≤k) v xs∧xs.length=n∧CurQ w0 b g w w':=by
 have HC:=Oa h.from_
 have HW:=Oa (cur_blw h).size
 clear h
 have hac:wrap64 (a*c)=(n:Int):=by rw [hn];unfold wrap64;omega
 go_enter Try.func92,Try.ntmps92
 go_wp2_with (first|((with_reducible refine gate_dst (N:=6) rfl ?_);refine box_event ?hg (N:=6) ?hd (cs:=#[.int .i64 0,.int .i64 0,.slice none 0 0]) (t:=27) ?hr ?_;(case hd=>rfl);(case hg=>rfl);(case hr=>first|(go_simp;done)|(go_simp;rfl));intro g6 hg_ wb_ hbox_ hb_;have nz_:=Oa (show Blk w wb_ g6 #[.int .i64 0,.int .i64 0,.slice none 0 0] from⟨by rw [hg_];exact cur_size (by repeat with_reducible first|exact HC.out|apply CurQ.al|apply CurQ.dn),hbox_⟩);have HZ:=nz_;clear nz_;have nc_:=Oa (CurQ.below (by repeat with_reducible first|exact HC.out|apply CurQ.al|apply CurQ.dn) hb_);clear HC;have HC:=nc_;clear nc_ hbox_ hb_ hg_)|((with_reducible refine gate_dst (N:=7) rfl ?_);refine box_event ?hg (N:=7) ?hd (cs:=#[.int .i64 0,.int .i64 0,.slice none 0 0]) (t:=27) ?hr ?_;(case hd=>rfl);(case hg=>rfl);(case hr=>first|(go_simp;done)|(go_simp;rfl));intro g7 hg_ wb_ hbox_ hb_;have nz_:=Oa (show Blk w wb_ g7 #[.int .i64 0,.int .i64 0,.slice none 0 0] from⟨by rw [hg_];exact cur_size (by repeat with_reducible first|exact HC.out|apply CurQ.al|apply CurQ.dn),hbox_⟩);have HN:=Oa (show g6≠g7 from by rw [hg_];exact Nat.ne_of_lt (blk_lt HZ.out.2));have nb_:=Oa (Blk.below (by repeat with_reducible first|exact HZ.out|apply Blk.al|apply Blk.dn) hb_);clear HZ;have HZ:=nb_;clear nb_;have HP0:=nz_;clear nz_;obtain⟨wv_,hwv_⟩:∃ wv_,wv_=wb_:=⟨_,rfl⟩;subst hwv_;have hf0_:=Ob HP0.out.2 0;have hz0_:wv_.cell? ⟨g7,0,none⟩=some (.int .i64 0):=(Oc HP0.out.2 0).trans rfl;have hf1_:=Ob HP0.out.2 1;have hz1_:wv_.cell? ⟨g7,1,none⟩=some (.int .i64 0):=(Oc HP0.out.2 1).trans rfl;have hf2_:=Ob HP0.out.2 2;have hz2_:wv_.cell? ⟨g7,2,none⟩=some (.slice none 0 0):=(Oc HP0.out.2 2).trans rfl;have nc_:=Oa (CurQ.below (by repeat with_reducible first|exact HC.out|apply CurQ.al|apply CurQ.dn) hb_);clear HC;have HC:=nc_;clear nc_ hbox_ hb_ hg_)|((with_reducible refine gate_store (t:=27) (p:=7) rfl ?_);refine store_event (t:=27) (p:=7) (v:=?vo1x_) (w1:=((wv_.setCell ⟨g7,0,none⟩ (.int .i64 a)).setCell ⟨g7,1,none⟩ (.int .i64 c)).setCell ⟨g7,2,none⟩ (.slice none 0 0)) ?hg ?ho ?hn ?hr ?_;(case ho=>rfl);(case hg=>rfl);(case hn=>rfl);(case hr=>first|(go_simp;done)|(go_simp;rfl));intro ws_ hw_;subst hw_;have HP:=Oa (show PV w0 w _ g7 a c [] from⟨_,HP0.out.set3 (.int .i64 a) (.int .i64 c) (.slice none 0 0),Kd.R_nil _ _ _ _ _⟩);have nb_:=Oa (HZ.out.far3 HN.out (.int .i64 a) (.int .i64 c) (.slice none 0 0));have nc_:=Oa (HC.out.set3 HP0.out HW.out (.int .i64 a) (.int .i64 c) (.slice none 0 0));clear HC HZ HP0 hz0_ hz1_ hz2_ hf0_ hf1_ hf2_;have HC:=nc_;have HZ:=nb_;clear nb_ nc_;revert HC HZ HP;generalize ((wv_.setCell ⟨g7,0,none⟩ (.int .i64 a)).setCell ⟨g7,1,none⟩ (.int .i64 c)).setCell ⟨g7,2,none⟩ (.slice none 0 0)=ww_;intro HP HC HZ)|(go_at_call 65;(with_reducible refine(cur_below (w0:=w0) (w:=w) (b:=b) 256 ?c1).mono ?_);(case c1=>exact(by repeat with_reducible first|exact HC.out|apply CurQ.al|apply CurQ.dn));rintro e wc_ ⟨r_,rfl,⟨_,_⟩,hc_⟩;have nb0_:=Oa (Blk.cur (by repeat with_reducible first|exact HZ.out|apply Blk.al|apply Blk.dn) (by repeat with_reducible first|exact HC.out|apply CurQ.al|apply CurQ.dn) hc_);have np0_:=Oa (PV.cur (by repeat with_reducible first|exact HP.out|apply PV.alloc|apply PV.drewN) (by repeat with_reducible first|exact HC.out|apply CurQ.al|apply CurQ.dn) hc_);have nc_:=Oa (CurQ.trans (by repeat with_reducible first|exact HC.out|apply CurQ.al|apply CurQ.dn) hc_);clear HC hc_;have HC:=nc_;clear nc_;clear HZ;have HZ:=nb0_;clear nb0_;clear HP;have HP:=np0_;clear np0_))
 go_loopg [8,9] n (fun gg v8 v9 w'=>∃ (i:Nat) (x8:Int) (xs:List Int),Aside0 (i≤n∧n - i≤gg)∧v8=.int .i64 x8∧v9=.int .i64 (i:Int)∧Aside0 (xs.length=i)∧Aside0 (PV w0 w w' g7 a c xs)∧Aside0 (Blk w w' g6 #[.int .i64 0,.int .i64 0,.slice none 0 0])∧Aside0 (CurQ w0 b g w w'))
 case atStart=>exact⟨0,_,[],⟨Nat.zero_le _,Nat.le_refl _⟩,rfl,rfl,⟨rfl⟩,HP,HZ,HC⟩
 case round=>
  clear HP HZ HC
  obtain⟨i,x8,xs,HK,rfl,rfl,HXL,HP,HZ,HC⟩:=hrel
  by_cases hlt:i < n
  ·have hltb:decide ((i:Int) < (n:Int))=true:=decide_eq_true (by omega)
   have hwi:=w64s (n:=i) (by omega)
   go_wp2_with (first|(go_at_call 65;(with_reducible refine(cur_below (w0:=w0) (w:=w) (b:=b) 6 ?c1).mono ?_);(case c1=>exact(by repeat with_reducible first|exact HC.out|apply CurQ.al|apply CurQ.dn));rintro e wc_ ⟨r6_,rfl,⟨_,_⟩,hc_⟩;have nb0_:=Oa (Blk.cur (by repeat with_reducible first|exact HZ.out|apply Blk.al|apply Blk.dn) (by repeat with_reducible first|exact HC.out|apply CurQ.al|apply CurQ.dn) hc_);have np0_:=Oa (PV.cur (by repeat with_reducible first|exact HP.out|apply PV.alloc|apply PV.drewN) (by repeat with_reducible first|exact HC.out|apply CurQ.al|apply CurQ.dn) hc_);have nc_:=Oa (CurQ.trans (by repeat with_reducible first|exact HC.out|apply CurQ.al|apply CurQ.dn) hc_);clear HC hc_;have HC:=nc_;clear nc_;clear HZ;have HZ:=nb0_;clear nb0_;clear HP;have HP:=np0_;clear np0_;obtain⟨A_,cc_,hbk_,hrk_,⟨hz0_,hz1_,hz2_⟩,hf0_,hf1_,hf2_⟩:=PV.open_ HP.out;have HBK:=Oa hbk_;have HRK:=Oa hrk_;clear hbk_ hrk_)|(go_at_call 65;(with_reducible refine(cur_below (w0:=w0) (w:=w) (b:=b) 256 ?c1).mono ?_);(case c1=>exact(by repeat with_reducible first|exact HC.out|apply CurQ.al|apply CurQ.dn));rintro e wc_ ⟨r_,rfl,⟨_,_⟩,hc_⟩;have nb0_:=Oa (Blk.cur (by repeat with_reducible first|exact HZ.out|apply Blk.al|apply Blk.dn) (by repeat with_reducible first|exact HC.out|apply CurQ.al|apply CurQ.dn) hc_);have np0_:=Oa (PV.cur (by repeat with_reducible first|exact HP.out|apply PV.alloc|apply PV.drewN) (by repeat with_reducible first|exact HC.out|apply CurQ.al|apply CurQ.dn) hc_);have nc_:=Oa (CurQ.trans (by repeat with_reducible first|exact HC.out|apply CurQ.al|apply CurQ.dn) hc_);clear HC hc_;have HC:=nc_;clear nc_;clear HZ;have HZ:=nb0_;clear nb0_;clear HP;have HP:=np0_;clear np0_;obtain⟨A_,cc_,hbk_,hrk_,⟨hz0_,hz1_,hz2_⟩,hf0_,hf1_,hf2_⟩:=PV.open_ HP.out;have HBK:=Oa hbk_;have HRK:=Oa hrk_;clear hbk_ hrk_)|(go_at_call 59;(with_reducible refine(spec_l1Min.calls _ _ _ _ (min_eq_i _ _)).mono ?_);rintro e wk_ ⟨rfl,⟨nd_,rfl⟩⟩)|((with_reducible refine gate_builtin (b:=.append) (xs:=#[.tmp 34,.tmp 36]) rfl ?_);at_builtin;refine R_appendi (w0:=w0) w0.heap.size rfl (.tmp 34) (.tmp 36) 22 2 rfl Try.underlying22 finfoI (.slice A_ xs.length cc_) xs (fun k_=>w.heap.size≤k_) rfl rfl ?aF ?aO ?aB ?aS ?aL ?_;(case aF=>exact(fun _ hk_=>Nat.le_trans (cur_size (by repeat with_reducible first|exact HC.out|apply CurQ.al|apply CurQ.dn)) hk_));(case aO=>exact(by(with_reducible repeat(first|apply Oe|apply Of|apply Od));exact HRK.out));(case aB=>exact(cur_blw (by repeat with_reducible first|exact HC.out|apply CurQ.al|apply CurQ.dn)));(case aS=>exact(Below.size (cur_blw (by repeat with_reducible first|exact HC.out|apply CurQ.al|apply CurQ.dn))));(case aL=>(have:=HXL.out;omega));intro va_ wa_ ys_ hyl_ hoa_ hba_ hg_;have n0_:=Oa (cur_append (e:=2) (d:=Kd.int .i64) (by decide) (by repeat with_reducible first|exact HC.out|apply CurQ.al|apply CurQ.dn) (by(with_reducible repeat(first|apply Oe|apply Of|apply Od));exact HRK.out) hg_ hba_);have ng0_:=Oa (Blk.grown (by repeat with_reducible first|exact HZ.out|apply Blk.al|apply Blk.dn) (by(with_reducible repeat(first|apply Oe|apply Of|apply Od));exact HRK.out) hg_);have ng1_:=Oa (Blk.grown (by repeat with_reducible first|exact HBK.out|apply Blk.al|apply Blk.dn) (by(with_reducible repeat(first|apply Oe|apply Of|apply Od));exact HRK.out) hg_);clear HC;have HC:=n0_;clear n0_;clear HZ;have HZ:=ng0_;clear ng0_;clear HBK;have HBK:=ng1_;clear ng1_;obtain⟨A2_,c2_,e2_⟩:=Kd.R_slice hoa_;subst e2_;have HRN:=Oa hoa_;have HYL:=Oa hyl_;clear hoa_ hba_ hg_ hyl_;have hf2n_:=Ob HBK.out.2 2;have hz2n_:wa_.cell? ⟨g7,2,none⟩=some (.slice A_ xs.length cc_):=(Oc HBK.out.2 2).trans rfl))
   all_goals
    go_roundg (n - (i+1))
    case measure=>have:=HK.out;omega
    case rel=>exact⟨i+1,_,ys_,⟨by omega,by omega⟩,rfl,by first|rfl|(rw [hwi])|simp,⟨by rw [HYL.out,HXL.out]⟩,⟨PV.put (by repeat with_reducible first|exact HBK.out|apply Blk.al|apply Blk.dn) HRN.out⟩,⟨Blk.far (by repeat with_reducible first|exact HZ.out|apply Blk.al|apply Blk.dn) (p:=⟨g7,2,none⟩) HN.out _⟩,⟨CurQ.setB (by repeat with_reducible first|exact HC.out|apply CurQ.al|apply CurQ.dn) (by repeat with_reducible first|exact HBK.out|apply Blk.al|apply Blk.dn) 2 _ HW.out⟩⟩
  ·have hltb:decide ((i:Int) < (n:Int))=false:=decide_eq_false (by omega)
   have hin:i=n:=by have:=HK.out;omega
   subst hin
   obtain⟨A_,cc_,hbk_,hrk_,⟨hz0_,hz1_,hz2_⟩,hf0_,hf1_,hf2_⟩:=PV.open_ HP.out
   have HBK:=Oa hbk_
   have HRK:=Oa hrk_
   clear hbk_ hrk_
   have hf0b_:=Ob HZ.out.2 0
   have hz0b_:wr.cell? ⟨g6,0,none⟩=some (.int .i64 0):=(Oc HZ.out.2 0).trans rfl
   have hf1b_:=Ob HZ.out.2 1
   have hz1b_:wr.cell? ⟨g6,1,none⟩=some (.int .i64 0):=(Oc HZ.out.2 1).trans rfl
   have hf2b_:=Ob HZ.out.2 2
   have hz2b_:wr.cell? ⟨g6,2,none⟩=some (.slice none 0 0):=(Oc HZ.out.2 2).trans rfl
   go_wp2
   ((try simp only [Exit.inBlock,Exit.then]);refine bodyPost_ret (results_cell_row rfl _ _ g6 27 #[.int .i64 a,.int .i64 c,.slice A_ xs.length cc_] (0,0) _ rfl (Blk.set3 HZ.out _ _ _).2 Try.underlying27 rfl (by kernel_rfl)) rfl ?_)
   exact⟨_,xs,rfl,R_set3 HRK.out HZ.out _ _ _,HXL.out,HC.out.set3 HZ.out HW.out _ _ _⟩

def spec_l14DrawTwo.T19 : Bool × List (List Nat × List Nat) := (true, [([], []), ([0], [0]), ([], []), ([], []), ([3], [3]), ([2, 4], [2, 4]), ([5], [5]), ([1, 0, 1, 2, 3, 4, 5, 6], [1]), ([7, 6, 4, 0, 1, 2, 3, 4, 5, 6], [6, 7])])
def spec_l14DrawTwo.B19 : List Nat := [0, 1, 0, 0, 8, 28, 60, 127, 255]
theorem spec_l14DrawTwo.tab19 : rtab .any (opsOf Try.f72 19) = spec_l14DrawTwo.T19 := by kernel_rfl
theorem spec_l14DrawTwo.bits19 : waitsOk spec_l14DrawTwo.T19.2 spec_l14DrawTwo.B19 = true := by kernel_rfl
set_option maxHeartbeats 4000000 in
set_option maxRecDepth 100000 in
theorem spec_l14DrawTwo.calls {b : List Int} {g : Nat} {w0 wc w : World} (h : CurQ w0 b g wc w) :
  Calls Try.prog 72 #[.pointer (some ⟨g,0,none⟩)] w fun e w'=>∃ (a0 c0 a1 c1:Int) (v0 v1:Value) (xs ys:List Int),e=.returned (.tuple #[.agg #[.int .i64 a0,.int .i64 c0,v0],.agg #[.int .i64 a1,.int .i64 c1,v1]])∧Kd.V (Kd.int .i64) 2 w' w0.heap.size (fun k=>w.heap.size≤k) v0 xs∧Kd.V (Kd.int .i64) 2 w' w0.heap.size (fun k=>w.heap.size≤k) v1 ys∧xs.length≤1000∧ys.length≤1000∧CurQ w0 b g w w':=by
 have HC:=Oa h.from_
 have HW:=Oa (cur_blw h).size
 clear h
 obtain⟨i0_,hi0_,_,hsz_,_⟩:=info_parts finfoI
 have HI0:=Oa hi0_
 have HI1:=Oa hsz_
 clear hi0_ hsz_
 go_enter Try.func72,Try.ntmps72
 go_upto_if 29 with (first|((with_reducible refine gate_dst (N:=2) rfl ?_);refine box_event ?hg (N:=2) ?hd (cs:=#[.int .i64 0,.int .i64 0,.slice none 0 0]) (t:=27) ?hr ?_;(case hd=>rfl);(case hg=>rfl);(case hr=>first|(go_simp;done)|(go_simp;rfl));intro g2 hg_ wb_ hbox_ hb_;have nz_:=Oa (show Blk w wb_ g2 #[.int .i64 0,.int .i64 0,.slice none 0 0] from⟨by rw [hg_];exact cur_size (by repeat with_reducible first|exact HC.out|apply CurQ.al|apply CurQ.dn),hbox_⟩);have mc_:=Oa (CurQ.below (by repeat with_reducible first|exact HC.out|apply CurQ.al|apply CurQ.dn) hb_);clear HC;have HC:=mc_;clear mc_;clear hb_;have qc:=nz_;clear nz_ hbox_ hg_)|((with_reducible refine gate_dst (N:=3) rfl ?_);refine box_event ?hg (N:=3) ?hd (cs:=#[.int .i64 0,.int .i64 0,.slice none 0 0]) (t:=27) ?hr ?_;(case hd=>rfl);(case hg=>rfl);(case hr=>first|(go_simp;done)|(go_simp;rfl));intro g3 hg_ wb_ hbox_ hb_;have nz_:=Oa (show Blk w wb_ g3 #[.int .i64 0,.int .i64 0,.slice none 0 0] from⟨by rw [hg_];exact cur_size (by repeat with_reducible first|exact HC.out|apply CurQ.al|apply CurQ.dn),hbox_⟩);have qa:=Oa (show g2≠g3 from by rw [hg_];exact Nat.ne_of_lt (blk_lt (show Blk w _ g2 _ from(by repeat with_reducible first|exact qc.out|apply Blk.al|apply Blk.dn)).2));have qb:=Oa (Blk.below (by repeat with_reducible first|exact qc.out|apply Blk.al|apply Blk.dn) hb_);have mc_:=Oa (CurQ.below (by repeat with_reducible first|exact HC.out|apply CurQ.al|apply CurQ.dn) hb_);clear HC;have HC:=mc_;clear mc_;clear qc;have qc:=qb;clear qb;clear hb_;have qe:=nz_;clear nz_ hbox_ hg_)|((fail_if_success (have:=HS1));go_at_call 65;(with_reducible refine(cur_below (w0:=w0) (w:=w) (b:=b) 3 ?c1).mono ?_);(case c1=>exact(by repeat with_reducible first|exact HC.out|apply CurQ.al|apply CurQ.dn));rintro e wc_ ⟨r1_,rfl,⟨ha0_,ha1_⟩,hc_⟩;have qb:=Oa (Blk.cur (by repeat with_reducible first|exact qc.out|apply Blk.al|apply Blk.dn) (by repeat with_reducible first|exact HC.out|apply CurQ.al|apply CurQ.dn) hc_);have qf:=Oa (Blk.cur (by repeat with_reducible first|exact qe.out|apply Blk.al|apply Blk.dn) (by repeat with_reducible first|exact HC.out|apply CurQ.al|apply CurQ.dn) hc_);have mc_:=Oa (CurQ.trans (by repeat with_reducible first|exact HC.out|apply CurQ.al|apply CurQ.dn) hc_);clear HC;have HC:=mc_;clear mc_;clear qc;have qc:=qb;clear qb;clear qe;have qe:=qf;clear qf;clear hc_;obtain⟨hx1_,a,hx2_,ha_⟩:=side_of r1_ ha0_ (ha1_ (by decide));have HS1:=Oa ha_;clear ha_ ha0_ ha1_)|(go_at_call 65;(with_reducible refine(cur_below (w0:=w0) (w:=w) (b:=b) 3 ?c1).mono ?_);(case c1=>exact(by repeat with_reducible first|exact HC.out|apply CurQ.al|apply CurQ.dn));rintro e wc_ ⟨r2_,rfl,⟨hb0_,hb1_⟩,hc_⟩;have qb:=Oa (Blk.cur (by repeat with_reducible first|exact qc.out|apply Blk.al|apply Blk.dn) (by repeat with_reducible first|exact HC.out|apply CurQ.al|apply CurQ.dn) hc_);have qf:=Oa (Blk.cur (by repeat with_reducible first|exact qe.out|apply Blk.al|apply Blk.dn) (by repeat with_reducible first|exact HC.out|apply CurQ.al|apply CurQ.dn) hc_);have mc_:=Oa (CurQ.trans (by repeat with_reducible first|exact HC.out|apply CurQ.al|apply CurQ.dn) hc_);clear HC;have HC:=mc_;clear mc_;clear qc;have qc:=qb;clear qb;clear qe;have qe:=qf;clear qf;clear hc_;obtain⟨hy1_,c,hy2_,hc2_⟩:=side_of r2_ hb0_ (hb1_ (by decide));have HS2:=Oa hc2_;clear hc2_ hb0_ hb1_;obtain⟨n,hn_,hn1_,hn2x_⟩:=sides HS1.out HS2.out;have hn2_:n≤1000:=(by omega))|((fail_if_success (have:=qm));go_at_call 92;(with_reducible refine(spec_l14DrawPicture.calls (w0:=w0) (wc:=w) (b:=b) ?c1 a c n hn_ hn2_).mono ?_);(case c1=>exact(by repeat with_reducible first|exact HC.out|apply CurQ.al|apply CurQ.dn));rintro e wc_ ⟨v6,xs6,rfl,ho_,hl6_,hc_⟩;have qm:=Oa (show Kd.R (Kd.int .i64) 2 wc_ w0.heap.size (fun k=>w.heap.size≤k) v6 xs6 from(Kd.R_mono ho_ (fun _ hk_=>Nat.le_trans (cur_size (by repeat with_reducible first|exact HC.out|apply CurQ.al|apply CurQ.dn)) hk_)));have HL6:=Oa hl6_;clear ho_ hl6_;have qb:=Oa (Blk.cur (by repeat with_reducible first|exact qc.out|apply Blk.al|apply Blk.dn) (by repeat with_reducible first|exact HC.out|apply CurQ.al|apply CurQ.dn) hc_);have qf:=Oa (Blk.cur (by repeat with_reducible first|exact qe.out|apply Blk.al|apply Blk.dn) (by repeat with_reducible first|exact HC.out|apply CurQ.al|apply CurQ.dn) hc_);have mc_:=Oa (CurQ.trans (by repeat with_reducible first|exact HC.out|apply CurQ.al|apply CurQ.dn) hc_);clear HC;have HC:=mc_;clear mc_;clear qc;have qc:=qb;clear qb;clear qe;have qe:=qf;clear qf;clear hc_;obtain⟨qq,qr,e6_⟩:=Kd.R_slice qm.out;subst e6_)|((with_reducible refine gate_dst (N:=6) rfl ?_);refine box_event ?hg (N:=6) ?hd (cs:=#[.int .i64 0,.int .i64 0,.slice none 0 0]) (t:=27) ?hr ?_;(case hd=>rfl);(case hg=>rfl);(case hr=>first|(go_simp;done)|(go_simp;rfl));intro g6 hg_ wb_ hbox_ hb_;have nz_:=Oa (show Blk w wb_ g6 #[.int .i64 0,.int .i64 0,.slice none 0 0] from⟨by rw [hg_];exact cur_size (by repeat with_reducible first|exact HC.out|apply CurQ.al|apply CurQ.dn),hbox_⟩);have qx:=Oa (show g2≠g6 from by rw [hg_];exact Nat.ne_of_lt (blk_lt (show Blk w _ g2 _ from(by repeat with_reducible first|exact qc.out|apply Blk.al|apply Blk.dn)).2));have qy:=Oa (show g3≠g6 from by rw [hg_];exact Nat.ne_of_lt (blk_lt (show Blk w _ g3 _ from(by repeat with_reducible first|exact qe.out|apply Blk.al|apply Blk.dn)).2));have qb:=Oa (Blk.below (by repeat with_reducible first|exact qc.out|apply Blk.al|apply Blk.dn) hb_);have qf:=Oa (Blk.below (by repeat with_reducible first|exact qe.out|apply Blk.al|apply Blk.dn) hb_);have qh:=Oa (Kd.R_below (by(with_reducible repeat(first|apply Oe|apply Of|apply Od));exact qm.out) hb_);have mc_:=Oa (CurQ.below (by repeat with_reducible first|exact HC.out|apply CurQ.al|apply CurQ.dn) hb_);clear HC;have HC:=mc_;clear mc_;clear qc;have qc:=qb;clear qb;clear qe;have qe:=qf;clear qf;clear qm;have qm:=qh;clear qh;clear hb_;have HX:=nz_;clear nz_ hbox_ hg_;obtain⟨wx6_,hwv_⟩:∃ wv_,wv_=wb_:=⟨_,rfl⟩;subst hwv_;have hf0_:=Ob HX.out.2 0;have hz0_:wx6_.cell? ⟨g6,0,none⟩=some (.int .i64 0):=(Oc HX.out.2 0).trans rfl;have hf1_:=Ob HX.out.2 1;have hz1_:wx6_.cell? ⟨g6,1,none⟩=some (.int .i64 0):=(Oc HX.out.2 1).trans rfl;have hf2_:=Ob HX.out.2 2;have hz2_:wx6_.cell? ⟨g6,2,none⟩=some (.slice none 0 0):=(Oc HX.out.2 2).trans rfl)|((with_reducible refine gate_store (t:=27) (p:=6) rfl ?_);refine store_event (t:=27) (p:=6) (v:=?vo12x_) (w1:=((wx6_.setCell ⟨g6,0,none⟩ (.int .i64 a)).setCell ⟨g6,1,none⟩ (.int .i64 c)).setCell ⟨g6,2,none⟩ (.slice qq xs6.length qr)) ?hg ?ho ?hn ?hr ?_;(case ho=>rfl);(case hg=>rfl);(case hn=>rfl);(case hr=>first|(go_simp;done)|(go_simp;rfl));intro ws_ hw_;subst hw_;have qg:=Oa (show Blk w _ g6 #[.int .i64 a,.int .i64 c,.slice qq xs6.length qr] from HX.out.set3 (.int .i64 a) (.int .i64 c) (.slice qq xs6.length qr));have qb:=Oa (Blk.far3 qc.out qx.out (.int .i64 a) (.int .i64 c) (.slice qq xs6.length qr));have qf:=Oa (Blk.far3 qe.out qy.out (.int .i64 a) (.int .i64 c) (.slice qq xs6.length qr));have qh:=Oa (R_set3 qm.out HX.out (.int .i64 a) (.int .i64 c) (.slice qq xs6.length qr));have mc_:=Oa (CurQ.set3 HC.out HX.out HW.out (.int .i64 a) (.int .i64 c) (.slice qq xs6.length qr));clear qc qe qm HC HX hz0_ hz1_ hz2_ hf0_ hf1_ hf2_;revert qg qb qf qh mc_;generalize (((wx6_.setCell ⟨g6,0,none⟩ (.int .i64 a)).setCell ⟨g6,1,none⟩ (.int .i64 c)).setCell ⟨g6,2,none⟩ (.slice qq xs6.length qr))=ww_;intro qg qc qe qm HC)|(go_at_call 92;(with_reducible refine(spec_l14DrawPicture.calls (w0:=w0) (wc:=w) (b:=b) ?c1 a c n hn_ hn2_).mono ?_);(case c1=>exact(by repeat with_reducible first|exact HC.out|apply CurQ.al|apply CurQ.dn));rintro e wc_ ⟨v7,xs7,rfl,ho_,hl7_,hc_⟩;have qt:=Oa (show Kd.R (Kd.int .i64) 2 wc_ w0.heap.size (fun k=>w.heap.size≤k) v7 xs7 from(Kd.R_mono ho_ (fun _ hk_=>Nat.le_trans (cur_size (by repeat with_reducible first|exact HC.out|apply CurQ.al|apply CurQ.dn)) hk_)));have yh:=Oa hl7_;have HRA:=Oa (R_apart_ (by(with_reducible repeat(first|apply Oe|apply Of|apply Od));exact qm.out) (by repeat with_reducible first|exact HC.out|apply CurQ.al|apply CurQ.dn) hc_ ho_);clear ho_ hl7_ qm;have qb:=Oa (Blk.cur (by repeat with_reducible first|exact qc.out|apply Blk.al|apply Blk.dn) (by repeat with_reducible first|exact HC.out|apply CurQ.al|apply CurQ.dn) hc_);have qf:=Oa (Blk.cur (by repeat with_reducible first|exact qe.out|apply Blk.al|apply Blk.dn) (by repeat with_reducible first|exact HC.out|apply CurQ.al|apply CurQ.dn) hc_);have qj:=Oa (Blk.cur (by repeat with_reducible first|exact qg.out|apply Blk.al|apply Blk.dn) (by repeat with_reducible first|exact HC.out|apply CurQ.al|apply CurQ.dn) hc_);have mc_:=Oa (CurQ.trans (by repeat with_reducible first|exact HC.out|apply CurQ.al|apply CurQ.dn) hc_);clear HC;have HC:=mc_;clear mc_;clear qc;have qc:=qb;clear qb;clear qe;have qe:=qf;clear qf;clear qg;have qg:=qj;clear qj;clear hc_;have qm:=HRA;clear HRA;obtain⟨qw,qn,e7_⟩:=Kd.R_slice qt.out;subst e7_)|((with_reducible refine gate_dst (N:=7) rfl ?_);refine box_event ?hg (N:=7) ?hd (cs:=#[.int .i64 0,.int .i64 0,.slice none 0 0]) (t:=27) ?hr ?_;(case hd=>rfl);(case hg=>rfl);(case hr=>first|(go_simp;done)|(go_simp;rfl));intro g7 hg_ wb_ hbox_ hb_;have nz_:=Oa (show Blk w wb_ g7 #[.int .i64 0,.int .i64 0,.slice none 0 0] from⟨by rw [hg_];exact cur_size (by repeat with_reducible first|exact HC.out|apply CurQ.al|apply CurQ.dn),hbox_⟩);have qu:=Oa (show g2≠g7 from by rw [hg_];exact Nat.ne_of_lt (blk_lt (show Blk w _ g2 _ from(by repeat with_reducible first|exact qc.out|apply Blk.al|apply Blk.dn)).2));have qv:=Oa (show g3≠g7 from by rw [hg_];exact Nat.ne_of_lt (blk_lt (show Blk w _ g3 _ from(by repeat with_reducible first|exact qe.out|apply Blk.al|apply Blk.dn)).2));have yg:=Oa (show g6≠g7 from by rw [hg_];exact Nat.ne_of_lt (blk_lt (show Blk w _ g6 _ from(by repeat with_reducible first|exact qg.out|apply Blk.al|apply Blk.dn)).2));have qb:=Oa (Blk.below (by repeat with_reducible first|exact qc.out|apply Blk.al|apply Blk.dn) hb_);have qf:=Oa (Blk.below (by repeat with_reducible first|exact qe.out|apply Blk.al|apply Blk.dn) hb_);have qj:=Oa (Blk.below (by repeat with_reducible first|exact qg.out|apply Blk.al|apply Blk.dn) hb_);have qh:=Oa (Kd.R_below (by(with_reducible repeat(first|apply Oe|apply Of|apply Od));exact qm.out) hb_);have ql:=Oa (Kd.R_below (by(with_reducible repeat(first|apply Oe|apply Of|apply Od));exact qt.out) hb_);have mc_:=Oa (CurQ.below (by repeat with_reducible first|exact HC.out|apply CurQ.al|apply CurQ.dn) hb_);clear HC;have HC:=mc_;clear mc_;clear qc;have qc:=qb;clear qb;clear qe;have qe:=qf;clear qf;clear qg;have qg:=qj;clear qj;clear qm;have qm:=qh;clear qh;clear qt;have qt:=ql;clear ql;clear hb_;have HX:=nz_;clear nz_ hbox_ hg_;obtain⟨wx7_,hwv_⟩:∃ wv_,wv_=wb_:=⟨_,rfl⟩;subst hwv_;have hf0_:=Ob HX.out.2 0;have hz0_:wx7_.cell? ⟨g7,0,none⟩=some (.int .i64 0):=(Oc HX.out.2 0).trans rfl;have hf1_:=Ob HX.out.2 1;have hz1_:wx7_.cell? ⟨g7,1,none⟩=some (.int .i64 0):=(Oc HX.out.2 1).trans rfl;have hf2_:=Ob HX.out.2 2;have hz2_:wx7_.cell? ⟨g7,2,none⟩=some (.slice none 0 0):=(Oc HX.out.2 2).trans rfl)|((with_reducible refine gate_store (t:=27) (p:=7) rfl ?_);refine store_event (t:=27) (p:=7) (v:=?vo13x_) (w1:=((wx7_.setCell ⟨g7,0,none⟩ (.int .i64 a)).setCell ⟨g7,1,none⟩ (.int .i64 c)).setCell ⟨g7,2,none⟩ (.slice qw xs7.length qn)) ?hg ?ho ?hn ?hr ?_;(case ho=>rfl);(case hg=>rfl);(case hn=>rfl);(case hr=>first|(go_simp;done)|(go_simp;rfl));intro ws_ hw_;subst hw_;have qd:=Oa (show Blk w _ g7 #[.int .i64 a,.int .i64 c,.slice qw xs7.length qn] from HX.out.set3 (.int .i64 a) (.int .i64 c) (.slice qw xs7.length qn));have qb:=Oa (Blk.far3 qc.out qu.out (.int .i64 a) (.int .i64 c) (.slice qw xs7.length qn));have qf:=Oa (Blk.far3 qe.out qv.out (.int .i64 a) (.int .i64 c) (.slice qw xs7.length qn));have qj:=Oa (Blk.far3 qg.out yg.out (.int .i64 a) (.int .i64 c) (.slice qw xs7.length qn));have qh:=Oa (R_set3 qm.out HX.out (.int .i64 a) (.int .i64 c) (.slice qw xs7.length qn));have ql:=Oa (R_set3 qt.out HX.out (.int .i64 a) (.int .i64 c) (.slice qw xs7.length qn));have mc_:=Oa (CurQ.set3 HC.out HX.out HW.out (.int .i64 a) (.int .i64 c) (.slice qw xs7.length qn));clear qc qe qg qm qt HC HX hz0_ hz1_ hz2_ hf0_ hf1_ hf2_;revert qd qb qf qj qh ql mc_;generalize (((wx7_.setCell ⟨g7,0,none⟩ (.int .i64 a)).setCell ⟨g7,1,none⟩ (.int .i64 c)).setCell ⟨g7,2,none⟩ (.slice qw xs7.length qn))=ww_;intro qd qc qe qg qm qt HC)|(go_at_call 64;(with_reducible refine(cur_once (w0:=w0) (w:=w) (b:=b) 2 ?c1).mono ?_);(case c1=>exact(by repeat with_reducible first|exact HC.out|apply CurQ.al|apply CurQ.dn));rintro e wc_ ⟨q2_,rfl,hc_⟩;have qb:=Oa (Blk.cur (by repeat with_reducible first|exact qc.out|apply Blk.al|apply Blk.dn) (by repeat with_reducible first|exact HC.out|apply CurQ.al|apply CurQ.dn) hc_);have qf:=Oa (Blk.cur (by repeat with_reducible first|exact qe.out|apply Blk.al|apply Blk.dn) (by repeat with_reducible first|exact HC.out|apply CurQ.al|apply CurQ.dn) hc_);have qj:=Oa (Blk.cur (by repeat with_reducible first|exact qg.out|apply Blk.al|apply Blk.dn) (by repeat with_reducible first|exact HC.out|apply CurQ.al|apply CurQ.dn) hc_);have qp:=Oa (Blk.cur (by repeat with_reducible first|exact qd.out|apply Blk.al|apply Blk.dn) (by repeat with_reducible first|exact HC.out|apply CurQ.al|apply CurQ.dn) hc_);have qh:=Oa (R_curI (e:=2) (d:=Kd.int .i64) (by decide) (by(with_reducible repeat(first|apply Oe|apply Of|apply Od));exact qm.out) (by repeat with_reducible first|exact HC.out|apply CurQ.al|apply CurQ.dn) hc_);have ql:=Oa (R_curI (e:=2) (d:=Kd.int .i64) (by decide) (by(with_reducible repeat(first|apply Oe|apply Of|apply Od));exact qt.out) (by repeat with_reducible first|exact HC.out|apply CurQ.al|apply CurQ.dn) hc_);have mc_:=Oa (CurQ.trans (by repeat with_reducible first|exact HC.out|apply CurQ.al|apply CurQ.dn) hc_);clear HC;have HC:=mc_;clear mc_;clear qc;have qc:=qb;clear qb;clear qe;have qe:=qf;clear qf;clear qg;have qg:=qj;clear qj;clear qd;have qd:=qp;clear qp;clear qm;have qm:=qh;clear qh;clear qt;have qt:=ql;clear ql;clear hc_;have ya:=Ob qd.out.2 0;have yc:wc_.cell? ⟨g7,0,none⟩=some (.int .i64 a):=(Oc qd.out.2 0).trans rfl;have yb:=Ob qd.out.2 1;have yd:wc_.cell? ⟨g7,1,none⟩=some (.int .i64 c):=(Oc qd.out.2 1).trans rfl;have qz:=Ob qd.out.2 2;have ye:wc_.cell? ⟨g7,2,none⟩=some (.slice qw xs7.length qn):=(Oc qd.out.2 2).trans rfl))
 go_cut [] (fun wc=>∃ (qw:Option Addr) (qn:Nat) (xs7:List Int),TwoQ w0 w wc b g g2 g3 g6 g7 n a c qq qr xs6 qw qn xs7)
 case first=>
  go_wp2_with (first|((with_reducible refine gate_store (t:=27) (p:=7) rfl ?_);refine store_event (t:=27) (p:=7) (v:=?vo11x_) (w1:=((wc_.setCell ⟨g7,0,none⟩ (.int .i64 a)).setCell ⟨g7,1,none⟩ (.int .i64 c)).setCell ⟨g7,2,none⟩ (.slice none 0 0)) ?hg ?ho ?hn ?hr ?_;(case ho=>rfl);(case hg=>rfl);(case hn=>rfl);(case hr=>first|(go_simp;done)|(go_simp;rfl));intro ws_ hw_;subst hw_;have HBN:=Oa (show Blk w _ g7 #[.int .i64 a,.int .i64 c,.slice none 0 0] from qd.out.set3 (.int .i64 a) (.int .i64 c) (.slice none 0 0));have qb:=Oa (Blk.far3 qc.out qu.out (.int .i64 a) (.int .i64 c) (.slice none 0 0));have qf:=Oa (Blk.far3 qe.out qv.out (.int .i64 a) (.int .i64 c) (.slice none 0 0));have qj:=Oa (Blk.far3 qg.out yg.out (.int .i64 a) (.int .i64 c) (.slice none 0 0));have qh:=Oa (R_set3 qm.out qd.out (.int .i64 a) (.int .i64 c) (.slice none 0 0));have mc_:=Oa (CurQ.set3 HC.out qd.out HW.out (.int .i64 a) (.int .i64 c) (.slice none 0 0));clear qc qe qg qm HC qd qt yc yd ye ya yb qz;revert HBN qb qf qj qh mc_;generalize (((wc_.setCell ⟨g7,0,none⟩ (.int .i64 a)).setCell ⟨g7,1,none⟩ (.int .i64 c)).setCell ⟨g7,2,none⟩ (.slice none 0 0))=ww_;intro HBN qc qe qg qm HC;have qd:=HBN;clear HBN)|((fail_if_success (have:=HDX));go_at_call 63;(with_reducible refine(cur_from (w0:=w0) (w:=w) (b:=b) (-2) 2 ?d1 ?d2 ?d3 ?c1).mono ?_);(case d1=>omega);(case d2=>omega);(case d3=>omega);(case c1=>exact(by repeat with_reducible first|exact HC.out|apply CurQ.al|apply CurQ.dn));rintro e wc_ ⟨dx,rfl,hdx_,hc_⟩;have qb:=Oa (Blk.cur (by repeat with_reducible first|exact qc.out|apply Blk.al|apply Blk.dn) (by repeat with_reducible first|exact HC.out|apply CurQ.al|apply CurQ.dn) hc_);have qf:=Oa (Blk.cur (by repeat with_reducible first|exact qe.out|apply Blk.al|apply Blk.dn) (by repeat with_reducible first|exact HC.out|apply CurQ.al|apply CurQ.dn) hc_);have qj:=Oa (Blk.cur (by repeat with_reducible first|exact qg.out|apply Blk.al|apply Blk.dn) (by repeat with_reducible first|exact HC.out|apply CurQ.al|apply CurQ.dn) hc_);have qp:=Oa (Blk.cur (by repeat with_reducible first|exact qd.out|apply Blk.al|apply Blk.dn) (by repeat with_reducible first|exact HC.out|apply CurQ.al|apply CurQ.dn) hc_);have qh:=Oa (R_curI (e:=2) (d:=Kd.int .i64) (by decide) (by(with_reducible repeat(first|apply Oe|apply Of|apply Od));exact qm.out) (by repeat with_reducible first|exact HC.out|apply CurQ.al|apply CurQ.dn) hc_);have mc_:=Oa (CurQ.trans (by repeat with_reducible first|exact HC.out|apply CurQ.al|apply CurQ.dn) hc_);clear HC;have HC:=mc_;clear mc_;clear qc;have qc:=qb;clear qb;clear qe;have qe:=qf;clear qf;clear qg;have qg:=qj;clear qj;clear qd;have qd:=qp;clear qp;clear qm;have qm:=qh;clear qh;clear hc_;have HDX:=Oa hdx_;clear hdx_)|(go_at_call 63;(with_reducible refine(cur_from (w0:=w0) (w:=w) (b:=b) (-2) 2 ?d1 ?d2 ?d3 ?c1).mono ?_);(case d1=>omega);(case d2=>omega);(case d3=>omega);(case c1=>exact(by repeat with_reducible first|exact HC.out|apply CurQ.al|apply CurQ.dn));rintro e wc_ ⟨dy,rfl,hdx_,hc_⟩;have qb:=Oa (Blk.cur (by repeat with_reducible first|exact qc.out|apply Blk.al|apply Blk.dn) (by repeat with_reducible first|exact HC.out|apply CurQ.al|apply CurQ.dn) hc_);have qf:=Oa (Blk.cur (by repeat with_reducible first|exact qe.out|apply Blk.al|apply Blk.dn) (by repeat with_reducible first|exact HC.out|apply CurQ.al|apply CurQ.dn) hc_);have qj:=Oa (Blk.cur (by repeat with_reducible first|exact qg.out|apply Blk.al|apply Blk.dn) (by repeat with_reducible first|exact HC.out|apply CurQ.al|apply CurQ.dn) hc_);have qp:=Oa (Blk.cur (by repeat with_reducible first|exact qd.out|apply Blk.al|apply Blk.dn) (by repeat with_reducible first|exact HC.out|apply CurQ.al|apply CurQ.dn) hc_);have qh:=Oa (R_curI (e:=2) (d:=Kd.int .i64) (by decide) (by(with_reducible repeat(first|apply Oe|apply Of|apply Od));exact qm.out) (by repeat with_reducible first|exact HC.out|apply CurQ.al|apply CurQ.dn) hc_);have mc_:=Oa (CurQ.trans (by repeat with_reducible first|exact HC.out|apply CurQ.al|apply CurQ.dn) hc_);clear HC;have HC:=mc_;clear mc_;clear qc;have qc:=qb;clear qb;clear qe;have qe:=qf;clear qf;clear qg;have qg:=qj;clear qj;clear qd;have qd:=qp;clear qp;clear qm;have qm:=qh;clear qh;clear hc_;have HDY:=Oa hdx_;clear hdx_))
  ·have hza_:=(side_ne HS1.out).1
   have hza2_:=(side_ne HS1.out).2
   have hac_:=wrap_n hn_ hn2_
   have HRA:=Oa (R_apart0 (Kd.R_mono qm.out (fun _ hk=>hk.1)))
   clear qm
   have qm:=HRA
   clear HRA
   go_loopg [10] n (fun gg v10 w'=>∃ (i:Nat) (xs:List Int) (qw:Option Addr) (qn:Nat),Aside0 (i≤n∧n - i≤gg)∧v10=.int .i64 (i:Int)∧Aside0 (xs.length=i)∧Aside0 (Blk w w' g6 #[.int .i64 a,.int .i64 c,.slice qq xs6.length qr])∧Aside0 (Blk w w' g7 #[.int .i64 a,.int .i64 c,.slice qw xs.length qn])∧Aside0 (Kd.R (Kd.int .i64) 2 w' w0.heap.size (fun k=>w.heap.size≤k∧some k≠(Value.slice qw xs.length qn).ownBlock) (.slice qq xs6.length qr) xs6)∧Aside0 (Kd.R (Kd.int .i64) 2 w' w0.heap.size (fun k=>w.heap.size≤k) (.slice qw xs.length qn) xs)∧Aside0 (Blk w w' g2 #[.int .i64 0,.int .i64 0,.slice none 0 0])∧Aside0 (Blk w w' g3 #[.int .i64 0,.int .i64 0,.slice none 0 0])∧Aside0 (CurQ w0 b g w w'))
   case atStart=>exact⟨0,[],none,0,⟨Nat.zero_le _,Nat.le_refl _⟩,rfl,⟨rfl⟩,qg,qd,qm,⟨Kd.R_nil _ _ _ _ _⟩,qc,qe,HC⟩
   case round=>
    clear qg qd qm qc qe HC
    obtain⟨i,xs,qw,qn,HK,rfl,HXL,qg,qd,qm,qt,qc,qe,HC⟩:=hrel
    by_cases hlt:i < n
    ·have hltb:decide ((i:Int) < (n:Int))=true:=decide_eq_true (by exact Int.ofNat_lt.2 hlt)
     have yk:=Ob qg.out.2 0
     have yq:wr.cell? ⟨g6,0,none⟩=some (.int .i64 a):=(Oc qg.out.2 0).trans rfl
     have yl:=Ob qg.out.2 1
     have yr:wr.cell? ⟨g6,1,none⟩=some (.int .i64 c):=(Oc qg.out.2 1).trans rfl
     have yj:=Ob qg.out.2 2
     have yt:wr.cell? ⟨g6,2,none⟩=some (.slice qq xs6.length qr):=(Oc qg.out.2 2).trans rfl
     have hwi_:=wrap_i hlt hn2_
     go_wp2
     refine wp_region_held_drew (S:=(fun w'=>w'.cell? ⟨g6,0,none⟩=some (.int .i64 a)∧w'.cell? ⟨g6,1,none⟩=some (.int .i64 c)∧w'.cell? ⟨g6,2,none⟩=some (.slice qq xs6.length qr))) (by kernel_rfl) ?hS_ (fun hS0=>?hr_)
     case hS_=>go_keep
     refine wpAnyH_take (i:=0) (oi:={ dst:=some 44,op:=Go.Op.load 27 (Go.Operand.tmp 6),type:=27,pos:="l14_coder.go:246",after:=#[],guard:=none }) (v:=?vv_u0) rfl (by kernel_rfl) (by kernel_rfl) (by kernel_rfl) (fun _ _ _ h=>h) (Or.inl ⟨by rfl,?hy_u0⟩) (by assumption) ?rest_u0
     case hy_u0=>(intro w hSw;(try dsimp only at hSw);first|(go_simp;done)|(go_simp;with_reducible rfl))
     try simp only [Act.put,List.setIfInBounds_toArray,List.set_cons_zero,List.set_cons_succ]
     refine wpAnyH_take (i:=1) (oi:={ dst:=some 45,op:=Go.Op.move (Go.Operand.tmp 10),type:=2,pos:="l14_coder.go:246",after:=#[],guard:=none }) (v:=?vv_u1) rfl (by kernel_rfl) (by kernel_rfl) (by kernel_rfl) (fun _ _ _ h=>h) (Or.inl ⟨by rfl,?hy_u1⟩) (by assumption) ?rest_u1
     case hy_u1=>(intro w hSw;(try dsimp only at hSw);first|(go_simp;done)|(go_simp;with_reducible rfl))
     try simp only [Act.put,List.setIfInBounds_toArray,List.set_cons_zero,List.set_cons_succ]
     refine wpAnyH_take (i:=2) (oi:={ dst:=some 46,op:=Go.Op.move (Go.Operand.tmp 4),type:=2,pos:="l14_coder.go:246",after:=#[],guard:=none }) (v:=?vv_u2) rfl (by kernel_rfl) (by kernel_rfl) (by kernel_rfl) (fun _ _ _ h=>h) (Or.inl ⟨by rfl,?hy_u2⟩) (by assumption) ?rest_u2
     case hy_u2=>(intro w hSw;(try dsimp only at hSw);first|(go_simp;done)|(go_simp;with_reducible rfl))
     try simp only [Act.put,List.setIfInBounds_toArray,List.set_cons_zero,List.set_cons_succ]
     refine wpAnyH_take (i:=3) (oi:={ dst:=some 47,op:=Go.Op.binOp Go.BinOp.rem 2 (Go.Operand.tmp 45) (Go.Operand.tmp 46) 2,type:=2,pos:="l14_coder.go:246",after:=#[{ on:=1,ground:=Go.Ground.data },{ on:=2,ground:=Go.Ground.data }],guard:=none }) (v:=?vv_u3) rfl (by kernel_rfl) (by kernel_rfl) (by kernel_rfl) (fun _ _ _ h=>h) (Or.inl ⟨by rfl,?hy_u3⟩) (by assumption) ?rest_u3
     case hy_u3=>(intro w hSw;(try dsimp only at hSw);first|(go_simp;done)|(go_simp;with_reducible rfl))
     try simp only [Act.put,List.setIfInBounds_toArray,List.set_cons_zero,List.set_cons_succ]
     refine wpAnyH_take (i:=4) (oi:={ dst:=some 48,op:=Go.Op.move (Go.Operand.tmp 8),type:=2,pos:="l14_coder.go:246",after:=#[],guard:=none }) (v:=?vv_u4) rfl (by kernel_rfl) (by kernel_rfl) (by kernel_rfl) (fun _ _ _ h=>h) (Or.inl ⟨by rfl,?hy_u4⟩) (by assumption) ?rest_u4
     case hy_u4=>(intro w hSw;(try dsimp only at hSw);first|(go_simp;done)|(go_simp;with_reducible rfl))
     try simp only [Act.put,List.setIfInBounds_toArray,List.set_cons_zero,List.set_cons_succ]
     refine wpAnyH_take (i:=5) (oi:={ dst:=some 49,op:=Go.Op.binOp Go.BinOp.add 2 (Go.Operand.tmp 47) (Go.Operand.tmp 48) 2,type:=2,pos:="l14_coder.go:246",after:=#[{ on:=3,ground:=Go.Ground.data },{ on:=4,ground:=Go.Ground.data }],guard:=none }) (v:=?vv_u5) rfl (by kernel_rfl) (by kernel_rfl) (by kernel_rfl) (fun _ _ _ h=>h) (Or.inl ⟨by rfl,?hy_u5⟩) (by assumption) ?rest_u5
     case hy_u5=>(intro w hSw;(try dsimp only at hSw);first|(go_simp;done)|(go_simp;with_reducible rfl))
     try simp only [Act.put,List.setIfInBounds_toArray,List.set_cons_zero,List.set_cons_succ]
     refine wpAnyH_take (i:=6) (oi:={ dst:=some 50,op:=Go.Op.move (Go.Operand.tmp 10),type:=2,pos:="l14_coder.go:246",after:=#[],guard:=none }) (v:=?vv_u6) rfl (by kernel_rfl) (by kernel_rfl) (by kernel_rfl) (fun _ _ _ h=>h) (Or.inl ⟨by rfl,?hy_u6⟩) (by assumption) ?rest_u6
     case hy_u6=>(intro w hSw;(try dsimp only at hSw);first|(go_simp;done)|(go_simp;with_reducible rfl))
     try simp only [Act.put,List.setIfInBounds_toArray,List.set_cons_zero,List.set_cons_succ]
     refine wpAnyH_take (i:=7) (oi:={ dst:=some 51,op:=Go.Op.move (Go.Operand.tmp 4),type:=2,pos:="l14_coder.go:246",after:=#[],guard:=none }) (v:=?vv_u7) rfl (by kernel_rfl) (by kernel_rfl) (by kernel_rfl) (fun _ _ _ h=>h) (Or.inl ⟨by rfl,?hy_u7⟩) (by assumption) ?rest_u7
     case hy_u7=>(intro w hSw;(try dsimp only at hSw);first|(go_simp;done)|(go_simp;with_reducible rfl))
     try simp only [Act.put,List.setIfInBounds_toArray,List.set_cons_zero,List.set_cons_succ]
     refine wpAnyH_take (i:=8) (oi:={ dst:=some 52,op:=Go.Op.binOp Go.BinOp.quo 2 (Go.Operand.tmp 50) (Go.Operand.tmp 51) 2,type:=2,pos:="l14_coder.go:246",after:=#[{ on:=6,ground:=Go.Ground.data },{ on:=7,ground:=Go.Ground.data }],guard:=none }) (v:=?vv_u8) rfl (by kernel_rfl) (by kernel_rfl) (by kernel_rfl) (fun _ _ _ h=>h) (Or.inl ⟨by rfl,?hy_u8⟩) (by assumption) ?rest_u8
     case hy_u8=>(intro w hSw;(try dsimp only at hSw);first|(go_simp;done)|(go_simp;with_reducible rfl))
     try simp only [Act.put,List.setIfInBounds_toArray,List.set_cons_zero,List.set_cons_succ]
     refine wpAnyH_take (i:=9) (oi:={ dst:=some 53,op:=Go.Op.move (Go.Operand.tmp 9),type:=2,pos:="l14_coder.go:246",after:=#[],guard:=none }) (v:=?vv_u9) rfl (by kernel_rfl) (by kernel_rfl) (by kernel_rfl) (fun _ _ _ h=>h) (Or.inl ⟨by rfl,?hy_u9⟩) (by assumption) ?rest_u9
     case hy_u9=>(intro w hSw;(try dsimp only at hSw);first|(go_simp;done)|(go_simp;with_reducible rfl))
     try simp only [Act.put,List.setIfInBounds_toArray,List.set_cons_zero,List.set_cons_succ]
     refine wpAnyH_take (i:=10) (oi:={ dst:=some 54,op:=Go.Op.binOp Go.BinOp.add 2 (Go.Operand.tmp 52) (Go.Operand.tmp 53) 2,type:=2,pos:="l14_coder.go:246",after:=#[{ on:=8,ground:=Go.Ground.data },{ on:=9,ground:=Go.Ground.data }],guard:=none }) (v:=?vv_u10) rfl (by kernel_rfl) (by kernel_rfl) (by kernel_rfl) (fun _ _ _ h=>h) (Or.inl ⟨by rfl,?hy_u10⟩) (by assumption) ?rest_u10
     case hy_u10=>(intro w hSw;(try dsimp only at hSw);first|(go_simp;done)|(go_simp;with_reducible rfl))
     try simp only [Act.put,List.setIfInBounds_toArray,List.set_cons_zero,List.set_cons_succ]
     refine wpAnyH_ready (rs:=[11]) (by kernel_rfl) (by simp) ?_
     refine AllReadyH.cons (o:={ dst:=some 55,op:=Go.Op.call { callee:=Go.Callee.value (Go.Operand.func 93),args:=#[Go.Operand.tmp 44,Go.Operand.tmp 49,Go.Operand.tmp 54],argTypes:=#[27,2,2] },type:=2,pos:="l14_coder.go:246",after:=#[{ on:=0,ground:=Go.Ground.data },{ on:=5,ground:=Go.Ground.data },{ on:=10,ground:=Go.Ground.data }],guard:=none }) rfl (fun K hK=>?_) AllReadyH.nil
     go_simp
     (go_at_call 93;(with_reducible refine(at_calls HS1.out HS2.out (len_nat HL6.out hn_) _ _ ?s1_ ?t1_).mono ?_);(case s1_=>exact(Kd.R_reads' (Od qm.out)).2.2);(case t1_=>exact(Kd.R_reads' qm.out).2.1);rintro e wk_ ⟨ra_,rfl,hb_⟩;have qb:=Oa (Blk.below (by repeat with_reducible first|exact qc.out|apply Blk.al|apply Blk.dn|apply Blk.drew) hb_);have qf:=Oa (Blk.below (by repeat with_reducible first|exact qe.out|apply Blk.al|apply Blk.dn|apply Blk.drew) hb_);have qj:=Oa (Blk.below (by repeat with_reducible first|exact qg.out|apply Blk.al|apply Blk.dn|apply Blk.drew) hb_);have qp:=Oa (Blk.below (by repeat with_reducible first|exact qd.out|apply Blk.al|apply Blk.dn|apply Blk.drew) hb_);have qh:=Oa (Kd.R_below (Od qm.out) hb_);have ql:=Oa (Kd.R_below (Od qt.out) hb_);have mc_:=Oa (CurQ.below (by repeat with_reducible first|exact HC.out|apply CurQ.al|apply CurQ.dn|apply CurQ.drew) hb_);clear HC;have HC:=mc_;clear mc_;clear qc;have qc:=qb;clear qb;clear qe;have qe:=qf;clear qf;clear qg;have qg:=qj;clear qj;clear qd;have qd:=qp;clear qp;clear qm;have qm:=qh;clear qh;clear qt;have qt:=ql;clear ql;clear hb_;have yk:=Ob qg.out.2 0;have yq:wk_.cell? ⟨g6,0,none⟩=some (.int .i64 a):=(Oc qg.out.2 0).trans rfl;have yl:=Ob qg.out.2 1;have yr:wk_.cell? ⟨g6,1,none⟩=some (.int .i64 c):=(Oc qg.out.2 1).trans rfl;have yj:=Ob qg.out.2 2;have yt:wk_.cell? ⟨g6,2,none⟩=some (.slice qq xs6.length qr):=(Oc qg.out.2 2).trans rfl)
     refine hK.out _ _ ?hs_u11 (fun hHeld=>?hr_u11)
     case hs_u11=>go_keep
     clear hK K
     try simp only [Act.put,List.setIfInBounds_toArray,List.set_cons_zero,List.set_cons_succ]
     refine wpAnyH_take (i:=12) (oi:={ dst:=some 11,op:=Go.Op.assign (Go.Operand.tmp 55),type:=2,pos:="l14_coder.go:246",after:=#[{ on:=11,ground:=Go.Ground.data },{ on:=11,ground:=Go.Ground.chain },{ on:=0,ground:=Go.Ground.phase },{ on:=1,ground:=Go.Ground.phase },{ on:=2,ground:=Go.Ground.phase },{ on:=3,ground:=Go.Ground.phase },{ on:=4,ground:=Go.Ground.phase },{ on:=5,ground:=Go.Ground.phase },{ on:=6,ground:=Go.Ground.phase },{ on:=7,ground:=Go.Ground.phase },{ on:=8,ground:=Go.Ground.phase },{ on:=9,ground:=Go.Ground.phase },{ on:=10,ground:=Go.Ground.phase },{ on:=11,ground:=Go.Ground.phase }],guard:=none }) (v:=?vv_u12) rfl (by kernel_rfl) (by kernel_rfl) (by kernel_rfl) (fun _ _ _ h=>h) (Or.inl ⟨by rfl,?hy_u12⟩) (by assumption) ?rest_u12
     case hy_u12=>(intro w hSw;(try dsimp only at hSw);first|(go_simp;done)|(go_simp;with_reducible rfl))
     try simp only [Act.put,List.setIfInBounds_toArray,List.set_cons_zero,List.set_cons_succ]
     refine wpAnyH_done (by kernel_rfl) ?_ _
     clear hHeld hS0 hx1_ hx2_ hy1_ hy2_ hac_ hza_ hza2_
     go_wp2_with (first|(go_at_call 64;(with_reducible refine(cur_once (w0:=w0) (w:=w) (b:=b) 9 ?c1).mono ?_);(case c1=>exact(by repeat with_reducible first|exact HC.out|apply CurQ.al|apply CurQ.dn));rintro e wc_ ⟨q9_,rfl,hc_⟩;have qb:=Oa (Blk.cur (by repeat with_reducible first|exact qc.out|apply Blk.al|apply Blk.dn) (by repeat with_reducible first|exact HC.out|apply CurQ.al|apply CurQ.dn) hc_);have qf:=Oa (Blk.cur (by repeat with_reducible first|exact qe.out|apply Blk.al|apply Blk.dn) (by repeat with_reducible first|exact HC.out|apply CurQ.al|apply CurQ.dn) hc_);have qj:=Oa (Blk.cur (by repeat with_reducible first|exact qg.out|apply Blk.al|apply Blk.dn) (by repeat with_reducible first|exact HC.out|apply CurQ.al|apply CurQ.dn) hc_);have qp:=Oa (Blk.cur (by repeat with_reducible first|exact qd.out|apply Blk.al|apply Blk.dn) (by repeat with_reducible first|exact HC.out|apply CurQ.al|apply CurQ.dn) hc_);have qh:=Oa (R_curI (e:=2) (d:=Kd.int .i64) (by decide) (by(with_reducible repeat(first|apply Oe|apply Of|apply Od));exact qm.out) (by repeat with_reducible first|exact HC.out|apply CurQ.al|apply CurQ.dn) hc_);have ql:=Oa (R_curI (e:=2) (d:=Kd.int .i64) (by decide) (by(with_reducible repeat(first|apply Oe|apply Of|apply Od));exact qt.out) (by repeat with_reducible first|exact HC.out|apply CurQ.al|apply CurQ.dn) hc_);have mc_:=Oa (CurQ.trans (by repeat with_reducible first|exact HC.out|apply CurQ.al|apply CurQ.dn) hc_);clear HC;have HC:=mc_;clear mc_;clear qc;have qc:=qb;clear qb;clear qe;have qe:=qf;clear qf;clear qg;have qg:=qj;clear qj;clear qd;have qd:=qp;clear qp;clear qm;have qm:=qh;clear qh;clear qt;have qt:=ql;clear ql;clear hc_;have ya:=Ob qd.out.2 0;have yc:wc_.cell? ⟨g7,0,none⟩=some (.int .i64 a):=(Oc qd.out.2 0).trans rfl;have yb:=Ob qd.out.2 1;have yd:wc_.cell? ⟨g7,1,none⟩=some (.int .i64 c):=(Oc qd.out.2 1).trans rfl;have qz:=Ob qd.out.2 2;have ye:wc_.cell? ⟨g7,2,none⟩=some (.slice qw xs.length qn):=(Oc qd.out.2 2).trans rfl)|(go_at_call 65;(with_reducible refine(cur_below (w0:=w0) (w:=w) (b:=b) 256 ?c1).mono ?_);(case c1=>exact(by repeat with_reducible first|exact HC.out|apply CurQ.al|apply CurQ.dn));rintro e wc_ ⟨rb_,rfl,⟨_,_⟩,hc_⟩;have qb:=Oa (Blk.cur (by repeat with_reducible first|exact qc.out|apply Blk.al|apply Blk.dn) (by repeat with_reducible first|exact HC.out|apply CurQ.al|apply CurQ.dn) hc_);have qf:=Oa (Blk.cur (by repeat with_reducible first|exact qe.out|apply Blk.al|apply Blk.dn) (by repeat with_reducible first|exact HC.out|apply CurQ.al|apply CurQ.dn) hc_);have qj:=Oa (Blk.cur (by repeat with_reducible first|exact qg.out|apply Blk.al|apply Blk.dn) (by repeat with_reducible first|exact HC.out|apply CurQ.al|apply CurQ.dn) hc_);have qp:=Oa (Blk.cur (by repeat with_reducible first|exact qd.out|apply Blk.al|apply Blk.dn) (by repeat with_reducible first|exact HC.out|apply CurQ.al|apply CurQ.dn) hc_);have qh:=Oa (R_curI (e:=2) (d:=Kd.int .i64) (by decide) (by(with_reducible repeat(first|apply Oe|apply Of|apply Od));exact qm.out) (by repeat with_reducible first|exact HC.out|apply CurQ.al|apply CurQ.dn) hc_);have ql:=Oa (R_curI (e:=2) (d:=Kd.int .i64) (by decide) (by(with_reducible repeat(first|apply Oe|apply Of|apply Od));exact qt.out) (by repeat with_reducible first|exact HC.out|apply CurQ.al|apply CurQ.dn) hc_);have mc_:=Oa (CurQ.trans (by repeat with_reducible first|exact HC.out|apply CurQ.al|apply CurQ.dn) hc_);clear HC;have HC:=mc_;clear mc_;clear qc;have qc:=qb;clear qb;clear qe;have qe:=qf;clear qf;clear qg;have qg:=qj;clear qj;clear qd;have qd:=qp;clear qp;clear qm;have qm:=qh;clear qh;clear qt;have qt:=ql;clear ql;clear hc_;have ya:=Ob qd.out.2 0;have yc:wc_.cell? ⟨g7,0,none⟩=some (.int .i64 a):=(Oc qd.out.2 0).trans rfl;have yb:=Ob qd.out.2 1;have yd:wc_.cell? ⟨g7,1,none⟩=some (.int .i64 c):=(Oc qd.out.2 1).trans rfl;have qz:=Ob qd.out.2 2;have ye:wc_.cell? ⟨g7,2,none⟩=some (.slice qw xs.length qn):=(Oc qd.out.2 2).trans rfl)|((with_reducible refine gate_builtin (b:=.append) (xs:=#[.tmp 61,.tmp 63]) rfl ?_);at_builtin;refine R_appendh (w0:=w0) w0.heap.size rfl (.tmp 61) (.tmp 63) 22 2 rfl Try.underlying22 finfoI (.slice qw xs.length qn) xs (fun k_=>w.heap.size≤k_) rfl rfl ?aF ?aO ?aB ?aS (app_lim HXL.out hlt hn2_) ?_;(case aF=>exact(fun _ hk_=>Nat.le_trans (cur_size (by repeat with_reducible first|exact HC.out|apply CurQ.al|apply CurQ.dn)) hk_));(case aO=>exact(by(with_reducible repeat(first|apply Oe|apply Of|apply Od));exact qt.out));(case aB=>exact(cur_blw (by repeat with_reducible first|exact HC.out|apply CurQ.al|apply CurQ.dn)));(case aS=>exact(Below.size (cur_blw (by repeat with_reducible first|exact HC.out|apply CurQ.al|apply CurQ.dn))));intro va_ wa_ ys_ hyl_ hoa_ hba_ hg_ hat_;have n0_:=Oa (cur_append (e:=2) (d:=Kd.int .i64) (by decide) (by repeat with_reducible first|exact HC.out|apply CurQ.al|apply CurQ.dn) (by(with_reducible repeat(first|apply Oe|apply Of|apply Od));exact qt.out) hg_ hba_);have ng0_:=Oa (Blk.grown (by repeat with_reducible first|exact qc.out|apply Blk.al|apply Blk.dn) (by(with_reducible repeat(first|apply Oe|apply Of|apply Od));exact qt.out) hg_);have ng1_:=Oa (Blk.grown (by repeat with_reducible first|exact qe.out|apply Blk.al|apply Blk.dn) (by(with_reducible repeat(first|apply Oe|apply Of|apply Od));exact qt.out) hg_);have ng2_:=Oa (Blk.grown (by repeat with_reducible first|exact qg.out|apply Blk.al|apply Blk.dn) (by(with_reducible repeat(first|apply Oe|apply Of|apply Od));exact qt.out) hg_);have ng3_:=Oa (Blk.grown (by repeat with_reducible first|exact qd.out|apply Blk.al|apply Blk.dn) (by(with_reducible repeat(first|apply Oe|apply Of|apply Od));exact qt.out) hg_);have n6_:=Oa (Kd.R_after (by(with_reducible repeat(first|apply Oe|apply Of|apply Od));exact qm.out) hg_ hat_);clear HC qm qt;have HC:=n0_;have qm:=n6_;clear n0_ n6_;clear qc;have qc:=ng0_;clear ng0_;clear qe;have qe:=ng1_;clear ng1_;clear qg;have qg:=ng2_;clear ng2_;clear qd;have qd:=ng3_;clear ng3_;obtain⟨A2_,c2_,e2_⟩:=Kd.R_slice hoa_;subst e2_;have HRN:=Oa hoa_;have HYL:=Oa hyl_;clear hoa_ hba_ hg_ hyl_ hat_;have ya:=Ob qd.out.2 0;have yc:wa_.cell? ⟨g7,0,none⟩=some (.int .i64 a):=(Oc qd.out.2 0).trans rfl;have yb:=Ob qd.out.2 1;have yd:wa_.cell? ⟨g7,1,none⟩=some (.int .i64 c):=(Oc qd.out.2 1).trans rfl;have qz:=Ob qd.out.2 2;have ye:wa_.cell? ⟨g7,2,none⟩=some (.slice qw xs.length qn):=(Oc qd.out.2 2).trans rfl))
     all_goals
      go_roundg (n - (i+1))
      case measure=>
       have h_:=HK.out
       exact sub_lt2_ h_.2 hlt
      case rel=>exact⟨i+1,ys_,A2_,c2_,⟨hlt,Nat.le_refl _⟩,by first|rfl|(rw [hwi_]),⟨HYL.out.trans (congrArg (· + 1) HXL.out)⟩,⟨Blk.far qg.out (p:=⟨g7,2,none⟩) yg.out (.slice A2_ ys_.length c2_)⟩,⟨Blk.put qd.out 2 (.slice A2_ ys_.length c2_)⟩,⟨R_setB (j:=2) qm.out qd.out (.slice A2_ ys_.length c2_)⟩,⟨R_setB (j:=2) HRN.out qd.out (.slice A2_ ys_.length c2_)⟩,⟨Blk.far qc.out (p:=⟨g7,2,none⟩) qu.out (.slice A2_ ys_.length c2_)⟩,⟨Blk.far qe.out (p:=⟨g7,2,none⟩) qv.out (.slice A2_ ys_.length c2_)⟩,⟨CurQ.setB HC.out qd.out 2 (.slice A2_ ys_.length c2_) HW.out⟩⟩
    ·have hltb:decide ((i:Int) < (n:Int))=false:=decide_eq_false (fun h=>hlt (Int.ofNat_lt.1 h))
     go_wp2
     go_meet
     exact⟨qw,qn,xs,HXL.out.trans (Nat.le_antisymm HK.out.1 (Nat.le_of_not_lt hlt)),qc.out,qe.out,qg.out,qd.out,qm.out,qt.out,HC.out⟩
  ·go_meet
   exact⟨qw,qn,xs7,yh.out,qc.out,qe.out,qg.out,qd.out,qm.out,qt.out,HC.out⟩
 case rest=>
  clear qc qe qg qd qm qt HC yh hx1_ hx2_ hy1_ hy2_
  obtain⟨qw,qn,xs7,⟨hl7_,z2_,z3_,b6_,b7_,r6_,r7_,cu_⟩⟩:=hcut
  have qc:=Oa z2_
  have qe:=Oa z3_
  have qg:=Oa b6_
  have qd:=Oa b7_
  have qm:=Oa r6_
  have qt:=Oa r7_
  have HC:=Oa cu_
  have yh:=Oa hl7_
  clear z2_ z3_ b6_ b7_ r6_ r7_ cu_ hl7_
  go_wp2_with (first|(go_at_call 64;(with_reducible refine(cur_once (w0:=w0) (w:=w) (b:=b) 20 ?c1).mono ?_);(case c1=>exact(by repeat with_reducible first|exact HC.out|apply CurQ.al|apply CurQ.dn));rintro e wc_ ⟨q20_,rfl,hc_⟩;have qb:=Oa (Blk.cur (by repeat with_reducible first|exact qc.out|apply Blk.al|apply Blk.dn) (by repeat with_reducible first|exact HC.out|apply CurQ.al|apply CurQ.dn) hc_);have qf:=Oa (Blk.cur (by repeat with_reducible first|exact qe.out|apply Blk.al|apply Blk.dn) (by repeat with_reducible first|exact HC.out|apply CurQ.al|apply CurQ.dn) hc_);have qj:=Oa (Blk.cur (by repeat with_reducible first|exact qg.out|apply Blk.al|apply Blk.dn) (by repeat with_reducible first|exact HC.out|apply CurQ.al|apply CurQ.dn) hc_);have qp:=Oa (Blk.cur (by repeat with_reducible first|exact qd.out|apply Blk.al|apply Blk.dn) (by repeat with_reducible first|exact HC.out|apply CurQ.al|apply CurQ.dn) hc_);have qh:=Oa (R_curI (e:=2) (d:=Kd.int .i64) (by decide) (by(with_reducible repeat(first|apply Oe|apply Of|apply Od));exact qm.out) (by repeat with_reducible first|exact HC.out|apply CurQ.al|apply CurQ.dn) hc_);have ql:=Oa (R_curI (e:=2) (d:=Kd.int .i64) (by decide) (by(with_reducible repeat(first|apply Oe|apply Of|apply Od));exact qt.out) (by repeat with_reducible first|exact HC.out|apply CurQ.al|apply CurQ.dn) hc_);have mc_:=Oa (CurQ.trans (by repeat with_reducible first|exact HC.out|apply CurQ.al|apply CurQ.dn) hc_);clear HC;have HC:=mc_;clear mc_;clear qc;have qc:=qb;clear qb;clear qe;have qe:=qf;clear qf;clear qg;have qg:=qj;clear qj;clear qd;have qd:=qp;clear qp;clear qm;have qm:=qh;clear qh;clear qt;have qt:=ql;clear ql;clear hc_)|(go_at_call 65;(with_reducible refine(cur_below (w0:=w0) (w:=w) (b:=b) 4 ?c1).mono ?_);(case c1=>exact(by repeat with_reducible first|exact HC.out|apply CurQ.al|apply CurQ.dn));rintro e wc_ ⟨r4_,rfl,⟨_,_⟩,hc_⟩;have qb:=Oa (Blk.cur (by repeat with_reducible first|exact qc.out|apply Blk.al|apply Blk.dn) (by repeat with_reducible first|exact HC.out|apply CurQ.al|apply CurQ.dn) hc_);have qf:=Oa (Blk.cur (by repeat with_reducible first|exact qe.out|apply Blk.al|apply Blk.dn) (by repeat with_reducible first|exact HC.out|apply CurQ.al|apply CurQ.dn) hc_);have qj:=Oa (Blk.cur (by repeat with_reducible first|exact qg.out|apply Blk.al|apply Blk.dn) (by repeat with_reducible first|exact HC.out|apply CurQ.al|apply CurQ.dn) hc_);have qp:=Oa (Blk.cur (by repeat with_reducible first|exact qd.out|apply Blk.al|apply Blk.dn) (by repeat with_reducible first|exact HC.out|apply CurQ.al|apply CurQ.dn) hc_);have qh:=Oa (R_curI (e:=2) (d:=Kd.int .i64) (by decide) (by(with_reducible repeat(first|apply Oe|apply Of|apply Od));exact qm.out) (by repeat with_reducible first|exact HC.out|apply CurQ.al|apply CurQ.dn) hc_);have ql:=Oa (R_curI (e:=2) (d:=Kd.int .i64) (by decide) (by(with_reducible repeat(first|apply Oe|apply Of|apply Od));exact qt.out) (by repeat with_reducible first|exact HC.out|apply CurQ.al|apply CurQ.dn) hc_);have mc_:=Oa (CurQ.trans (by repeat with_reducible first|exact HC.out|apply CurQ.al|apply CurQ.dn) hc_);clear HC;have HC:=mc_;clear mc_;clear qc;have qc:=qb;clear qb;clear qe;have qe:=qf;clear qf;clear qg;have qg:=qj;clear qj;clear qd;have qd:=qp;clear qp;clear qm;have qm:=qh;clear qh;clear qt;have qt:=ql;clear ql;clear hc_;have hnc_:c*a=(n:Int):=(by rw [Int.mul_comm];exact hn_);obtain⟨yi,hA9_⟩:∃ yi:Option Addr,yi=(if qn=1 then qw else qw.map (·.add (1*1))):=⟨_,rfl⟩;have hcut_:∀ W:World,(Instr.slice 22 (.slice qw xs7.length qn) (some (.int .i64 1)) none none).run Try.prog W=.ok (.slice yi (xs7.length - 1) (qn - 1)) W:=(by rw [hA9_];exact cut_from (P:=Try.prog) 22 2 .i64 Try.underlying22 HI0.out 1 HI1.out qw xs7.length qn 1 (by omega) (by have:=yh.out;omega));have HV9:=Oa (by rw [hA9_];exact v_cut qt.out qc.out qe.out qd.out (by have:=yh.out;omega):Kd.V (Kd.int .i64) 2 wc_ w0.heap.size (fun k=>((w.heap.size≤k∧k≠g2)∧k≠g3)∧k≠g7) (.slice yi (xs7.length - 1) (qn - 1)) (xs7.drop 1));clear hA9_;have ya:=Ob qd.out.2 0;have yc:wc_.cell? ⟨g7,0,none⟩=some (.int .i64 a):=(Oc qd.out.2 0).trans rfl;have yb:=Ob qd.out.2 1;have yd:wc_.cell? ⟨g7,1,none⟩=some (.int .i64 c):=(Oc qd.out.2 1).trans rfl;have qz:=Ob qd.out.2 2;have ye:wc_.cell? ⟨g7,2,none⟩=some (.slice qw xs7.length qn):=(Oc qd.out.2 2).trans rfl)|((with_reducible refine gate_dst (N:=82) rfl ?_);refine Kd.R_lit (Kd.int .i64) _ 2 ?hg (N:=82) ?hd (xs:=[0,16,20,6,-4]) (inner:=[.int .i64 (0),.int .i64 (16),.int .i64 (20),.int .i64 (6),.int .i64 (-4)]) (ok:=(fun k_=>w.heap.size≤k_)) (okp:=(fun k_=>w.heap.size≤k_)) ?hr ?hp (fun _ hk=>hk) (cur_size (by repeat with_reducible first|exact HC.out|apply CurQ.al|apply CurQ.dn)) (Below.refl _ _) (Nat.le_refl _) (by simp) ?_;(case hd=>rfl);(case hg=>rfl);(case hr=>first|(go_simp;done)|(go_simp;rfl));(case hp=>exact lit_i _);intro vl_ wl_ hol_ hb_ hg_ hnew_;clear hg_ hnew_;have HRL:=Oa (Kd.R_lower hol_ (Below.size (cur_blw (by repeat with_reducible first|exact HC.out|apply CurQ.al|apply CurQ.dn))));clear hol_;have qb:=Oa (Blk.below (by repeat with_reducible first|exact qc.out|apply Blk.al|apply Blk.dn) hb_);have qf:=Oa (Blk.below (by repeat with_reducible first|exact qe.out|apply Blk.al|apply Blk.dn) hb_);have qj:=Oa (Blk.below (by repeat with_reducible first|exact qg.out|apply Blk.al|apply Blk.dn) hb_);have qp:=Oa (Blk.below (by repeat with_reducible first|exact qd.out|apply Blk.al|apply Blk.dn) hb_);have qh:=Oa (Kd.R_below (by(with_reducible repeat(first|apply Oe|apply Of|apply Od));exact qm.out) hb_);have ql:=Oa (Kd.R_below (by(with_reducible repeat(first|apply Oe|apply Of|apply Od));exact qt.out) hb_);have mc_:=Oa (CurQ.below (by repeat with_reducible first|exact HC.out|apply CurQ.al|apply CurQ.dn) hb_);clear HC;have HC:=mc_;clear mc_;clear qc;have qc:=qb;clear qb;clear qe;have qe:=qf;clear qf;clear qg;have qg:=qj;clear qj;clear qd;have qd:=qp;clear qp;clear qm;have qm:=qh;clear qh;clear qt;have qt:=ql;clear ql;clear hb_;obtain⟨Al_,cl_,el_⟩:=Kd.R_slice HRL.out;subst el_)|(go_at_call 65;(with_reducible refine(cur_below (w0:=w0) (w:=w) (b:=b) 5 ?c1).mono ?_);(case c1=>exact(by repeat with_reducible first|exact HC.out|apply CurQ.al|apply CurQ.dn));rintro e wc_ ⟨r5_,rfl,⟨h50_,h51_⟩,hc_⟩;have qb:=Oa (Blk.cur (by repeat with_reducible first|exact qc.out|apply Blk.al|apply Blk.dn) (by repeat with_reducible first|exact HC.out|apply CurQ.al|apply CurQ.dn) hc_);have qf:=Oa (Blk.cur (by repeat with_reducible first|exact qe.out|apply Blk.al|apply Blk.dn) (by repeat with_reducible first|exact HC.out|apply CurQ.al|apply CurQ.dn) hc_);have qj:=Oa (Blk.cur (by repeat with_reducible first|exact qg.out|apply Blk.al|apply Blk.dn) (by repeat with_reducible first|exact HC.out|apply CurQ.al|apply CurQ.dn) hc_);have qp:=Oa (Blk.cur (by repeat with_reducible first|exact qd.out|apply Blk.al|apply Blk.dn) (by repeat with_reducible first|exact HC.out|apply CurQ.al|apply CurQ.dn) hc_);have qh:=Oa (R_curI (e:=2) (d:=Kd.int .i64) (by decide) (by(with_reducible repeat(first|apply Oe|apply Of|apply Od));exact qm.out) (by repeat with_reducible first|exact HC.out|apply CurQ.al|apply CurQ.dn) hc_);have ql:=Oa (R_curI (e:=2) (d:=Kd.int .i64) (by decide) (by(with_reducible repeat(first|apply Oe|apply Of|apply Od));exact qt.out) (by repeat with_reducible first|exact HC.out|apply CurQ.al|apply CurQ.dn) hc_);have mr2_:=Oa (R_curI (e:=2) (d:=Kd.int .i64) (by decide) (by(with_reducible repeat(first|apply Oe|apply Of|apply Od));exact HRL.out) (by repeat with_reducible first|exact HC.out|apply CurQ.al|apply CurQ.dn) hc_);have mc_:=Oa (CurQ.trans (by repeat with_reducible first|exact HC.out|apply CurQ.al|apply CurQ.dn) hc_);clear HC;have HC:=mc_;clear mc_;clear qc;have qc:=qb;clear qb;clear qe;have qe:=qf;clear qf;clear qg;have qg:=qj;clear qj;clear qd;have qd:=qp;clear qp;clear qm;have qm:=qh;clear qh;clear qt;have qt:=ql;clear ql;clear HRL;have HRL:=mr2_;clear mr2_;clear hc_;obtain⟨adl_,el_,hxl_⟩:=Kd.at_int (Kd.R_reads' HRL.out).2.2 r5_ h50_ (by have h_:=h51_ (by decide);simpa using h_);cases el_;have pl_:(0≤r5_)=True:=eq_true h50_;have ql_:(r5_ < 5)=True:=eq_true (h51_ (by decide));obtain⟨zb,hq5_⟩:∃ q_,rd [0,16,20,6,-4] r5_=q_:=⟨_,rfl⟩;rw [hq5_] at hxl_;have yk:=Ob qg.out.2 0;have yq:wc_.cell? ⟨g6,0,none⟩=some (.int .i64 a):=(Oc qg.out.2 0).trans rfl;have yl:=Ob qg.out.2 1;have yr:wc_.cell? ⟨g6,1,none⟩=some (.int .i64 c):=(Oc qg.out.2 1).trans rfl;have yj:=Ob qg.out.2 2;have yt:wc_.cell? ⟨g6,2,none⟩=some (.slice qq xs6.length qr):=(Oc qg.out.2 2).trans rfl)|((with_reducible refine gate_store (t:=2) (p:=87) rfl ?_);refine store_event (t:=2) (p:=87) (v:=?vo8x_) (w1:=(wc_.setCell ⟨g6,0,none⟩ (.int .i64 zb))) ?hg ?ho ?hn ?hr ?_;(case ho=>rfl);(case hg=>rfl);(case hn=>rfl);(case hr=>first|(go_simp;done)|(go_simp;rfl));intro ws_ hw_;subst hw_;have m0_:=Oa (show Blk w _ g6 #[.int .i64 zb,.int .i64 c,.slice qq xs6.length qr] from qg.out.put 0 (.int .i64 zb));have m1_:=Oa (Blk.far (p:=⟨g6,0,none⟩) qd.out yg.out.symm (.int .i64 zb));have m2_:=Oa (Blk.far (p:=⟨g6,0,none⟩) qc.out qx.out (.int .i64 zb));have m3_:=Oa (Blk.far (p:=⟨g6,0,none⟩) qe.out qy.out (.int .i64 zb));have m4_:=Oa (R_setB (j:=0) qm.out qg.out (.int .i64 zb));have m5_:=Oa (R_setB (j:=0) qt.out qg.out (.int .i64 zb));have m6_:=Oa (CurQ.setB HC.out qg.out 0 (.int .i64 zb) HW.out);clear qg qd qc qe qm qt HC HRL yq yr yt yk yl yj;revert m0_ m1_ m2_ m3_ m4_ m5_ m6_;generalize (wc_.setCell ⟨g6,0,none⟩ (.int .i64 zb))=ww1_;intro qg qd qc qe qm qt HC)|(go_at_call 92;(with_reducible refine(spec_l14DrawPicture.calls (w0:=w0) (wc:=w) (b:=b) ?c1 c a n hnc_ hn2_).mono ?_);(case c1=>exact(by repeat with_reducible first|exact HC.out|apply CurQ.al|apply CurQ.dn));rintro e wc_ ⟨v8,yu,rfl,ho_,hl8_,hc_⟩;have HR8:=Oa (show Kd.R (Kd.int .i64) 2 wc_ w0.heap.size (fun k=>w.heap.size≤k) v8 yu from(Kd.R_mono ho_ (fun _ hk_=>Nat.le_trans (cur_size (by repeat with_reducible first|exact HC.out|apply CurQ.al|apply CurQ.dn)) hk_)));have HL8:=Oa hl8_;clear ho_ hl8_;have qb:=Oa (Blk.cur (by repeat with_reducible first|exact qc.out|apply Blk.al|apply Blk.dn) (by repeat with_reducible first|exact HC.out|apply CurQ.al|apply CurQ.dn) hc_);have qf:=Oa (Blk.cur (by repeat with_reducible first|exact qe.out|apply Blk.al|apply Blk.dn) (by repeat with_reducible first|exact HC.out|apply CurQ.al|apply CurQ.dn) hc_);have qj:=Oa (Blk.cur (by repeat with_reducible first|exact qg.out|apply Blk.al|apply Blk.dn) (by repeat with_reducible first|exact HC.out|apply CurQ.al|apply CurQ.dn) hc_);have qp:=Oa (Blk.cur (by repeat with_reducible first|exact qd.out|apply Blk.al|apply Blk.dn) (by repeat with_reducible first|exact HC.out|apply CurQ.al|apply CurQ.dn) hc_);have qh:=Oa (R_curI (e:=2) (d:=Kd.int .i64) (by decide) (by(with_reducible repeat(first|apply Oe|apply Of|apply Od));exact qm.out) (by repeat with_reducible first|exact HC.out|apply CurQ.al|apply CurQ.dn) hc_);have ql:=Oa (R_curI (e:=2) (d:=Kd.int .i64) (by decide) (by(with_reducible repeat(first|apply Oe|apply Of|apply Od));exact qt.out) (by repeat with_reducible first|exact HC.out|apply CurQ.al|apply CurQ.dn) hc_);have mc_:=Oa (CurQ.trans (by repeat with_reducible first|exact HC.out|apply CurQ.al|apply CurQ.dn) hc_);clear HC;have HC:=mc_;clear mc_;clear qc;have qc:=qb;clear qb;clear qe;have qe:=qf;clear qf;clear qg;have qg:=qj;clear qj;clear qd;have qd:=qp;clear qp;clear qm;have qm:=qh;clear qh;clear qt;have qt:=ql;clear ql;clear hc_;obtain⟨yx,yy,e8_⟩:=Kd.R_slice HR8.out;subst e8_;have ya:=Ob qd.out.2 0;have yc:wc_.cell? ⟨g7,0,none⟩=some (.int .i64 a):=(Oc qd.out.2 0).trans rfl;have yb:=Ob qd.out.2 1;have yd:wc_.cell? ⟨g7,1,none⟩=some (.int .i64 c):=(Oc qd.out.2 1).trans rfl;have qz:=Ob qd.out.2 2;have ye:wc_.cell? ⟨g7,2,none⟩=some (.slice qw xs7.length qn):=(Oc qd.out.2 2).trans rfl)|((with_reducible refine gate_store (t:=27) (p:=7) rfl ?_);refine store_event (t:=27) (p:=7) (v:=?vo10x_) (w1:=((wc_.setCell ⟨g7,0,none⟩ (.int .i64 c)).setCell ⟨g7,1,none⟩ (.int .i64 a)).setCell ⟨g7,2,none⟩ (.slice yx yu.length yy)) ?hg ?ho ?hn ?hr ?_;(case ho=>rfl);(case hg=>rfl);(case hn=>rfl);(case hr=>first|(go_simp;done)|(go_simp;rfl));intro ws_ hw_;subst hw_;have HBN:=Oa (show Blk w _ g7 #[.int .i64 c,.int .i64 a,.slice yx yu.length yy] from qd.out.set3 (.int .i64 c) (.int .i64 a) (.slice yx yu.length yy));have qb:=Oa (Blk.far3 qc.out qu.out (.int .i64 c) (.int .i64 a) (.slice yx yu.length yy));have qf:=Oa (Blk.far3 qe.out qv.out (.int .i64 c) (.int .i64 a) (.slice yx yu.length yy));have qj:=Oa (Blk.far3 qg.out yg.out (.int .i64 c) (.int .i64 a) (.slice yx yu.length yy));have qh:=Oa (R_set3 qm.out qd.out (.int .i64 c) (.int .i64 a) (.slice yx yu.length yy));have ql:=Oa (R_set3 HR8.out qd.out (.int .i64 c) (.int .i64 a) (.slice yx yu.length yy));have mc_:=Oa (CurQ.set3 HC.out qd.out HW.out (.int .i64 c) (.int .i64 a) (.slice yx yu.length yy));clear qc qe qg qm HR8 HC qd qt yc yd ye ya yb qz;revert HBN qb qf qj qh ql mc_;generalize (((wc_.setCell ⟨g7,0,none⟩ (.int .i64 c)).setCell ⟨g7,1,none⟩ (.int .i64 a)).setCell ⟨g7,2,none⟩ (.slice yx yu.length yy))=ww_;intro HBN qc qe qg qm HR8 HC;have qd:=HBN;clear HBN;obtain⟨zc,hww_⟩:∃ x_,x_=ww_:=⟨_,rfl⟩;subst hww_)|((with_reducible refine gate_store (t:=22) (p:=93) rfl ?_);refine store_event (t:=22) (p:=93) (v:=?vo9x_) (w1:=(wc_.setCell ⟨g7,2,none⟩ (.slice yi (xs7.length - 1) (qn - 1)))) ?hg ?ho ?hn ?hr ?_;(case ho=>rfl);(case hg=>rfl);(case hn=>rfl);(case hr=>first|(go_simp;done)|(go_simp;rfl));intro ws_ hw_;subst hw_;have m0_:=Oa (Blk.far (p:=⟨g7,2,none⟩) qg.out yg.out (.slice yi (xs7.length - 1) (qn - 1)));have m1_:=Oa (Og (Kd.V_far (p:=⟨g7,2,none⟩) HV9.out (fun _ hk=>hk.2) (.slice yi (xs7.length - 1) (qn - 1))) (fun _ hk=>hk.1));have m2_:=Oa (Blk.far (p:=⟨g7,2,none⟩) qc.out qu.out (.slice yi (xs7.length - 1) (qn - 1)));have m3_:=Oa (Blk.far (p:=⟨g7,2,none⟩) qe.out qv.out (.slice yi (xs7.length - 1) (qn - 1)));have m4_:=Oa (show Blk w _ g7 #[.int .i64 a,.int .i64 c,.slice yi (xs7.length - 1) (qn - 1)] from qd.out.put 2 (.slice yi (xs7.length - 1) (qn - 1)));have m5_:=Oa (R_setB (j:=2) qm.out qd.out (.slice yi (xs7.length - 1) (qn - 1)));have m6_:=Oa (CurQ.setB HC.out qd.out 2 (.slice yi (xs7.length - 1) (qn - 1)) HW.out);clear qg qd qc qe qm qt HC HV9 yc yd ye ya yb qz;revert m0_ m1_ m2_ m3_ m4_ m5_ m6_;generalize (wc_.setCell ⟨g7,2,none⟩ (.slice yi (xs7.length - 1) (qn - 1)))=ww2_;intro qg HV7 qc qe qd qm HC))
  ·have qb:=Oa (Blk.drew_ qc.out);have qf:=Oa (Blk.drew_ qe.out);have qj:=Oa (Blk.drew_ qg.out);have qp:=Oa (Blk.drew_ qd.out);have qh:=Oa (Od qm.out);have ql:=Oa (Od qt.out);have mc_:=Oa (CurQ.drew HC.out);clear HC;have HC:=mc_;clear mc_;clear qc;have qc:=qb;clear qb;clear qe;have qe:=qf;clear qf;clear qg;have qg:=qj;clear qj;clear qd;have qd:=qp;clear qp;clear qm;have qm:=qh;clear qh;clear qt;have qt:=ql;clear ql
   refine start_ (n:=9) (S:=fun w'=>w'.cell? ⟨g7,0,none⟩=some (.int .i64 a)∧w'.cell? ⟨g7,1,none⟩=some (.int .i64 c)∧w'.cell? ⟨g7,2,none⟩=some (.slice qw xs7.length qn)) (ds:=[8]) #[false,false,false,false,false,false,false,false,false] (by kernel_rfl) rfl rfl ⟨(Oc qd.out.2 0).trans rfl,(Oc qd.out.2 1).trans rfl,(Oc qd.out.2 2).trans rfl⟩ (fun hHeld=>?_);refine with_tabW spec_l14DrawTwo.tab19 spec_l14DrawTwo.bits19 (fun HT_ HW_=>?_)
   refine pure_ (i:=0) (N:=some 72) (v:=?_) (a':=?_) #[true,false,false,false,false,false,false,false,false] rfl rfl (any_of HT_.out (by kernel_rfl)) (fun _ _ _ h=>h) (Or.inl ⟨by rfl,?_⟩) ?_ ?_
   rotate_left
   ·intro w'
    go_simp
    with_reducible rfl
   rotate_left
   ·simp only [Act.put,List.setIfInBounds_toArray,List.set_cons_zero,List.set_cons_succ,i64_w,i32_w]
    rfl
   refine pure_ (i:=3) (N:=some 75) (v:=?_) (a':=?_) #[true,false,false,true,false,false,false,false,false] rfl rfl (any_of HT_.out (by kernel_rfl)) (fun _ _ _ h=>h) (Or.inl ⟨by rfl,?_⟩) ?_ ?_
   rotate_left
   ·intro w'
    go_simp
    with_reducible rfl
   rotate_left
   ·simp only [Act.put,List.setIfInBounds_toArray,List.set_cons_zero,List.set_cons_succ,i64_w,i32_w]
    rfl
   refine take_ (i:=1) (N:=some 73) (v:=?_) (a':=?_) #[true,true,false,true,false,false,false,false,false] rfl rfl (take_ofW HT_.out HW_.out (by kernel_rfl)) (fun _ _ _ h=>h) (Or.inl ⟨by rfl,?_⟩) hHeld ?_ ?_
   rotate_left
   ·rintro w' ⟨s0,s1,s2⟩
    go_simp
    with_reducible rfl
   rotate_left
   ·simp only [Act.put,List.setIfInBounds_toArray,List.set_cons_zero,List.set_cons_succ,i64_w,i32_w]
    rfl
   refine join_ (σ:=Value × Addr × Int) 4 #[true,true,true,true,true,false,false,false,false] (fun s_=>[(74,s_.1),(76,.int .i64 s_.2.2)]) (fun (s_:Value × Addr × Int) w'=>(w'.cell? ⟨g7,0,none⟩=some (.int .i64 a)∧w'.cell? ⟨g7,1,none⟩=some (.int .i64 c)∧w'.cell? ⟨g7,2,none⟩=some (.slice qw xs7.length qn))∧TwoQ w0 w w' b g g2 g3 g6 g7 n a c qq qr xs6 qw qn xs7∧Kd.R (Kd.int .i64) 2 w' w0.heap.size (fun k=>w.heap.size≤k) s_.1 [(-1),256,4611686018427387904]∧(∃ c_,s_.1=.slice (some s_.2.1) 3 c_)∧(0≤s_.2.2∧s_.2.2 < 3)) ?_ ?_
   rotate_left
   ·intro hCont
    refine two_ (i:=2) (j:=4) (Ni:=some 74) (Nj:=some 76) #[true,true,true,true,false,false,false,false,false] #[true,true,false,true,true,false,false,false,false] rfl rfl rfl rfl (two_of HT_.out (by kernel_rfl)) (by decide) (by decide) (fun K hK=>?_) (fun K hK=>?_)
    ·refine Kd.R_lit_step (Kd.int .i64) _ 2 ?hg1 (N:=74) ?hd1 (xs:=([(-1),256,4611686018427387904]:List Int)) (inner:=[.int .i64 (-1),.int .i64 256,.int .i64 4611686018427387904]) (ok:=fun k_=>w.heap.size≤k_) (okp:=fun k_=>w.heap.size≤k_) ?hr1 ?hp1 (fun _ hk=>hk) (cur_size HC.out) (Below.refl _ _) (Nat.le_refl _) (by simp) ?_;(case hd1=>rfl);(case hg1=>rfl);(case hr1=>first|(go_simp;done)|(go_simp;rfl));(case hp1=>exact lit_i _);intro vl_ wl_ hol_ hb_ hg_ hnew_;clear hg_ hnew_;have HRL:=Oa (Kd.R_lower hol_ (Below.size (cur_blw HC.out)));clear hol_;have qb:=Oa (Blk.below (by repeat with_reducible first|exact qc.out|apply Blk.al|apply Blk.dn) hb_);have qf:=Oa (Blk.below (by repeat with_reducible first|exact qe.out|apply Blk.al|apply Blk.dn) hb_);have qj:=Oa (Blk.below (by repeat with_reducible first|exact qg.out|apply Blk.al|apply Blk.dn) hb_);have qp:=Oa (Blk.below (by repeat with_reducible first|exact qd.out|apply Blk.al|apply Blk.dn) hb_);have qh:=Oa (Kd.R_below (by(with_reducible repeat(first|apply Oe|apply Of|apply Od));exact qm.out) hb_);have ql:=Oa (Kd.R_below (by(with_reducible repeat(first|apply Oe|apply Of|apply Od));exact qt.out) hb_);have mc_:=Oa (CurQ.below (by repeat with_reducible first|exact HC.out|apply CurQ.al|apply CurQ.dn) hb_);clear HC;have HC:=mc_;clear mc_;clear qc;have qc:=qb;clear qb;clear qe;have qe:=qf;clear qf;clear qg;have qg:=qj;clear qj;clear qd;have qd:=qp;clear qp;clear qm;have qm:=qh;clear qh;clear qt;have qt:=ql;clear ql;clear hb_;obtain⟨Al_,cl_,el_⟩:=Kd.R_slice HRL.out;subst el_;obtain⟨adl_,fol_,_⟩:=Kd.at_int (Kd.R_reads' HRL.out).2.2 0 (by decide) (by simp);cases fol_
     refine hK.out _ _ ⟨(Oc qd.out.2 0).trans rfl,(Oc qd.out.2 1).trans rfl,(Oc qd.out.2 2).trans rfl⟩ (fun hHeld=>?_)
     clear hK K
     refine norm_ (a':=?_) ?_ ?_
     rotate_left
     ·show Act.put _ (some 74) _=_
      simp only [Act.put,List.setIfInBounds_toArray,List.set_cons_zero,List.set_cons_succ,i64_w,i32_w]
      rfl
     refine one_ (i:=4) (N:=some 76) #[true,true,true,true,true,false,false,false,false] rfl rfl (one_of HT_.out (by kernel_rfl)) (by decide) (fun K hK=>?_)
     refine goes_ Try.func65 (by kernel_rfl) rfl #[.pointer (some ⟨g,0,none⟩),.int .i64 3] (by rfl) rfl rfl (by(try simp only [List.map_toArray,List.map_cons,List.map_nil]);first|done|rfl) ?_
     with_reducible refine(cur_below (w0:=w0) (w:=w) (b:=b) 3 HC.out).mono ?_
     rintro e wc_ ⟨r3_,rfl,h3_,hc_⟩
     refine⟨_,rfl,?_⟩
     have HR3:=Oa h3_
     clear h3_
     have qb:=Oa (Blk.cur (by repeat with_reducible first|exact qc.out|apply Blk.al|apply Blk.dn) (by repeat with_reducible first|exact HC.out|apply CurQ.al|apply CurQ.dn) hc_);have qf:=Oa (Blk.cur (by repeat with_reducible first|exact qe.out|apply Blk.al|apply Blk.dn) (by repeat with_reducible first|exact HC.out|apply CurQ.al|apply CurQ.dn) hc_);have qj:=Oa (Blk.cur (by repeat with_reducible first|exact qg.out|apply Blk.al|apply Blk.dn) (by repeat with_reducible first|exact HC.out|apply CurQ.al|apply CurQ.dn) hc_);have qp:=Oa (Blk.cur (by repeat with_reducible first|exact qd.out|apply Blk.al|apply Blk.dn) (by repeat with_reducible first|exact HC.out|apply CurQ.al|apply CurQ.dn) hc_);have qh:=Oa (R_curI (e:=2) (d:=Kd.int .i64) (by decide) (by(with_reducible repeat(first|apply Oe|apply Of|apply Od));exact qm.out) (by repeat with_reducible first|exact HC.out|apply CurQ.al|apply CurQ.dn) hc_);have ql:=Oa (R_curI (e:=2) (d:=Kd.int .i64) (by decide) (by(with_reducible repeat(first|apply Oe|apply Of|apply Od));exact qt.out) (by repeat with_reducible first|exact HC.out|apply CurQ.al|apply CurQ.dn) hc_);have mr2_:=Oa (R_curI (e:=2) (d:=Kd.int .i64) (by decide) (by(with_reducible repeat(first|apply Oe|apply Of|apply Od));exact HRL.out) (by repeat with_reducible first|exact HC.out|apply CurQ.al|apply CurQ.dn) hc_);have mc_:=Oa (CurQ.trans (by repeat with_reducible first|exact HC.out|apply CurQ.al|apply CurQ.dn) hc_);clear HC;have HC:=mc_;clear mc_;clear qc;have qc:=qb;clear qb;clear qe;have qe:=qf;clear qf;clear qg;have qg:=qj;clear qj;clear qd;have qd:=qp;clear qp;clear qm;have qm:=qh;clear qh;clear qt;have qt:=ql;clear ql;clear HRL;have HRL:=mr2_;clear mr2_;clear hc_
     refine hK.out _ _ ⟨(Oc qd.out.2 0).trans rfl,(Oc qd.out.2 1).trans rfl,(Oc qd.out.2 2).trans rfl⟩ (fun hHeld=>?_)
     clear hK K
     refine norm_ (a':=?_) ?_ ?_
     rotate_left
     ·show Act.put _ (some 76) _=_
      simp only [Act.put,List.setIfInBounds_toArray,List.set_cons_zero,List.set_cons_succ,i64_w,i32_w]
      rfl
     exact norm_ (by simp only [putAll,Act.put,List.setIfInBounds_toArray,List.set_cons_zero,List.set_cons_succ] <;> rfl) (hCont (.slice (some adl_) 3 cl_,adl_,r3_) _ ⟨hHeld,⟨yh.out,qc.out,qe.out,qg.out,qd.out,qm.out,qt.out,HC.out⟩,HRL.out,⟨_,rfl⟩,HR3.out.1,HR3.out.2 (by decide)⟩)
    ·refine goes_ Try.func65 (by kernel_rfl) rfl #[.pointer (some ⟨g,0,none⟩),.int .i64 3] (by rfl) rfl rfl (by(try simp only [List.map_toArray,List.map_cons,List.map_nil]);first|done|rfl) ?_
     with_reducible refine(cur_below (w0:=w0) (w:=w) (b:=b) 3 HC.out).mono ?_
     rintro e wc_ ⟨r3_,rfl,h3_,hc_⟩
     refine⟨_,rfl,?_⟩
     have HR3:=Oa h3_
     clear h3_
     have qb:=Oa (Blk.cur (by repeat with_reducible first|exact qc.out|apply Blk.al|apply Blk.dn) (by repeat with_reducible first|exact HC.out|apply CurQ.al|apply CurQ.dn) hc_);have qf:=Oa (Blk.cur (by repeat with_reducible first|exact qe.out|apply Blk.al|apply Blk.dn) (by repeat with_reducible first|exact HC.out|apply CurQ.al|apply CurQ.dn) hc_);have qj:=Oa (Blk.cur (by repeat with_reducible first|exact qg.out|apply Blk.al|apply Blk.dn) (by repeat with_reducible first|exact HC.out|apply CurQ.al|apply CurQ.dn) hc_);have qp:=Oa (Blk.cur (by repeat with_reducible first|exact qd.out|apply Blk.al|apply Blk.dn) (by repeat with_reducible first|exact HC.out|apply CurQ.al|apply CurQ.dn) hc_);have qh:=Oa (R_curI (e:=2) (d:=Kd.int .i64) (by decide) (by(with_reducible repeat(first|apply Oe|apply Of|apply Od));exact qm.out) (by repeat with_reducible first|exact HC.out|apply CurQ.al|apply CurQ.dn) hc_);have ql:=Oa (R_curI (e:=2) (d:=Kd.int .i64) (by decide) (by(with_reducible repeat(first|apply Oe|apply Of|apply Od));exact qt.out) (by repeat with_reducible first|exact HC.out|apply CurQ.al|apply CurQ.dn) hc_);have mc_:=Oa (CurQ.trans (by repeat with_reducible first|exact HC.out|apply CurQ.al|apply CurQ.dn) hc_);clear HC;have HC:=mc_;clear mc_;clear qc;have qc:=qb;clear qb;clear qe;have qe:=qf;clear qf;clear qg;have qg:=qj;clear qj;clear qd;have qd:=qp;clear qp;clear qm;have qm:=qh;clear qh;clear qt;have qt:=ql;clear ql;clear hc_
     refine hK.out _ _ ⟨(Oc qd.out.2 0).trans rfl,(Oc qd.out.2 1).trans rfl,(Oc qd.out.2 2).trans rfl⟩ (fun hHeld=>?_)
     clear hK K
     refine norm_ (a':=?_) ?_ ?_
     rotate_left
     ·show Act.put _ (some 76) _=_
      simp only [Act.put,List.setIfInBounds_toArray,List.set_cons_zero,List.set_cons_succ,i64_w,i32_w]
      rfl
     refine one_ (i:=2) (N:=some 74) #[true,true,true,true,true,false,false,false,false] rfl rfl (one_of HT_.out (by kernel_rfl)) (by decide) (fun K hK=>?_)
     refine Kd.R_lit_step (Kd.int .i64) _ 2 ?hg2 (N:=74) ?hd2 (xs:=([(-1),256,4611686018427387904]:List Int)) (inner:=[.int .i64 (-1),.int .i64 256,.int .i64 4611686018427387904]) (ok:=fun k_=>w.heap.size≤k_) (okp:=fun k_=>w.heap.size≤k_) ?hr2 ?hp2 (fun _ hk=>hk) (cur_size HC.out) (Below.refl _ _) (Nat.le_refl _) (by simp) ?_;(case hd2=>rfl);(case hg2=>rfl);(case hr2=>first|(go_simp;done)|(go_simp;rfl));(case hp2=>exact lit_i _);intro vl_ wl_ hol_ hb_ hg_ hnew_;clear hg_ hnew_;have HRL:=Oa (Kd.R_lower hol_ (Below.size (cur_blw HC.out)));clear hol_;have qb:=Oa (Blk.below (by repeat with_reducible first|exact qc.out|apply Blk.al|apply Blk.dn) hb_);have qf:=Oa (Blk.below (by repeat with_reducible first|exact qe.out|apply Blk.al|apply Blk.dn) hb_);have qj:=Oa (Blk.below (by repeat with_reducible first|exact qg.out|apply Blk.al|apply Blk.dn) hb_);have qp:=Oa (Blk.below (by repeat with_reducible first|exact qd.out|apply Blk.al|apply Blk.dn) hb_);have qh:=Oa (Kd.R_below (by(with_reducible repeat(first|apply Oe|apply Of|apply Od));exact qm.out) hb_);have ql:=Oa (Kd.R_below (by(with_reducible repeat(first|apply Oe|apply Of|apply Od));exact qt.out) hb_);have mc_:=Oa (CurQ.below (by repeat with_reducible first|exact HC.out|apply CurQ.al|apply CurQ.dn) hb_);clear HC;have HC:=mc_;clear mc_;clear qc;have qc:=qb;clear qb;clear qe;have qe:=qf;clear qf;clear qg;have qg:=qj;clear qj;clear qd;have qd:=qp;clear qp;clear qm;have qm:=qh;clear qh;clear qt;have qt:=ql;clear ql;clear hb_;obtain⟨Al_,cl_,el_⟩:=Kd.R_slice HRL.out;subst el_;obtain⟨adl_,fol_,_⟩:=Kd.at_int (Kd.R_reads' HRL.out).2.2 0 (by decide) (by simp);cases fol_
     refine hK.out _ _ ⟨(Oc qd.out.2 0).trans rfl,(Oc qd.out.2 1).trans rfl,(Oc qd.out.2 2).trans rfl⟩ (fun hHeld=>?_)
     clear hK K
     refine norm_ (a':=?_) ?_ ?_
     rotate_left
     ·show Act.put _ (some 74) _=_
      simp only [Act.put,List.setIfInBounds_toArray,List.set_cons_zero,List.set_cons_succ,i64_w,i32_w]
      rfl
     exact norm_ (by simp only [putAll,Act.put,List.setIfInBounds_toArray,List.set_cons_zero,List.set_cons_succ] <;> rfl) (hCont (.slice (some adl_) 3 cl_,adl_,r3_) _ ⟨hHeld,⟨yh.out,qc.out,qe.out,qg.out,qd.out,qm.out,qt.out,HC.out⟩,HRL.out,⟨_,rfl⟩,HR3.out.1,HR3.out.2 (by decide)⟩)
   clear qc qe qg qd qm qt HC hHeld
   rintro⟨vl_,adl_,r3_⟩ w85 ⟨hHeld,hTwo,hRL_,⟨cl_,el_⟩,h30_,h31_⟩
   dsimp only at hRL_ el_ h30_ h31_
   subst el_
   have HRL:=Oa hRL_
   clear hRL_
   obtain⟨hl7_,z2_,z3_,b6_,b7_,r6_,r7_,cu_⟩:=hTwo
   have qc:=Oa z2_
   have qe:=Oa z3_
   have qg:=Oa b6_
   have qd:=Oa b7_
   have qm:=Oa r6_
   have qt:=Oa r7_
   have HC:=Oa cu_
   clear z2_ z3_ b6_ b7_ r6_ r7_ cu_ hl7_
   obtain⟨go_,cg_,eg_,_,_,csg_,HG_⟩:=Kd.R_form qt.out (by have h_:=yh.out;omega)
   injection eg_ with ea_ en_ ec_
   subst ea_
   subst ec_
   clear en_
   have HGG:=Oa HG_
   clear HG_
   have hgle_:=Oa (show w.heap.size≤go_ from qt.out.1 go_ rfl)
   obtain⟨adx_,elx_,hxl_⟩:=Kd.at_int (Kd.R_reads' HRL.out).2.2 r3_ h30_ (by simpa using h31_)
   obtain rfl:adl_=adx_:=(by injection elx_)
   clear elx_
   obtain⟨hx7_,hf7_⟩:=Kd.R_celln 0 qt.out (0:Int) (by omega) (by have h_:=yh.out;omega)
   simp only [Int.toNat_zero] at hx7_ hf7_
   have p3_:(0≤r3_)=True:=eq_true h30_
   have q3_:(r3_ < 3)=True:=eq_true h31_
   have q7_:(0 < xs7.length)=True:=eq_true (by have h_:=yh.out;omega)
   obtain⟨x3_,hx3_⟩:∃ x_,rd [(-1),256,4611686018427387904] r3_=x_:=⟨_,rfl⟩
   rw [hx3_] at hxl_
   refine norm_ (a':=?_) ?_ ?_
   rotate_left
   ·simp only [putAll,Act.put,List.setIfInBounds_toArray,List.set_cons_zero,List.set_cons_succ]
    rfl
   refine pure_ (i:=5) (N:=some 77) (v:=?_) (a':=?_) #[true,true,true,true,true,true,false,false,false] rfl rfl (any_of HT_.out (by kernel_rfl)) (fun _ _ _ h=>h) (Or.inl ⟨by rfl,?_⟩) ?_ ?_
   rotate_left
   ·intro w'
    go_simp
    with_reducible rfl
   rotate_left
   ·simp only [Act.put,List.setIfInBounds_toArray,List.set_cons_zero,List.set_cons_succ,i64_w,i32_w]
    rfl
   refine one_ (i:=6) (N:=some 78) #[true,true,true,true,true,true,true,false,false] rfl rfl (one_of HT_.out (by kernel_rfl)) (by decide) (fun K hK=>?_)
   refine value_ (w1:=?_) (v:=?_) (by rfl) rfl ?_ ?_
   rotate_left 2
   ·go_simp
    constructor
    ·rfl
    ·rfl
   refine hK.out _ _ ⟨(Oc qd.out.2 0).trans rfl,(Oc qd.out.2 1).trans rfl,(Oc qd.out.2 2).trans rfl⟩ (fun hHeld=>?_)
   clear hK K
   refine norm_ (a':=?_) ?_ ?_
   rotate_left
   ·show Act.put _ (some 78) _=_
    simp only [Act.put,List.setIfInBounds_toArray,List.set_cons_zero,List.set_cons_succ,i64_w,i32_w]
    rfl
   refine pure_ (i:=7) (N:=some 79) (v:=?_) (a':=?_) #[true,true,true,true,true,true,true,true,false] rfl rfl (any_of HT_.out (by kernel_rfl)) (fun _ _ _ h=>h) (Or.inl ⟨by rfl,?_⟩) ?_ ?_
   rotate_left
   ·intro w'
    go_simp
    with_reducible rfl
   rotate_left
   ·simp only [Act.put,List.setIfInBounds_toArray,List.set_cons_zero,List.set_cons_succ,i64_w,i32_w]
    rfl
   refine last_ (i:=8) (N:=none) #[true,true,true,true,true,true,true,true,true] rfl rfl (one_of HT_.out (by kernel_rfl)) (by decide) (fun K hK=>?_)
   refine skip_ (w1:=?_) (by rfl) rfl ?_ ?_
   rotate_left
   ·go_simp
    rfl
   refine hK.out _ _ ?_
   clear hK K
   refine done_ (done_of HT_.out (by kernel_rfl)) ?_
   clear hHeld HT_ HW_
   have m0_:=Oa (Blk.far (p:=⟨go_,0,none⟩) qc.out (own_ne_ (Kd.R_ne qt.out qc.out.2 (by decide))) (.int .i64 x3_))
   have m1_:=Oa (Blk.far (p:=⟨go_,0,none⟩) qe.out (own_ne_ (Kd.R_ne qt.out qe.out.2 (by decide))) (.int .i64 x3_))
   have m2_:=Oa (Blk.far (p:=⟨go_,0,none⟩) qg.out (own_ne_ (Kd.R_ne qt.out qg.out.2 (by decide))) (.int .i64 x3_))
   have m3_:=Oa (Blk.far (p:=⟨go_,0,none⟩) qd.out (own_ne_ (Kd.R_ne qt.out qd.out.2 (by decide))) (.int .i64 x3_))
   have m4_:=Oa (Kd.R_far (p:=⟨go_,0,none⟩) qm.out (fun k_ hk_ e_=>hk_.2 (by rw [e_];rfl)) (.int .i64 x3_))
   have m5_:=Kd.R_putn qt.out (0:Int) x3_
   simp only [Int.toNat_zero] at m5_
   replace m5_:=Oa m5_
   have m6_:=Oa (CurQ.setR HC.out HGG.out hgle_.out 0 (.int .i64 x3_) HW.out)
   clear qc qe qg qd qm qt HC HRL HGG hxl_ hx7_ hf7_ hx3_
   revert m0_ m1_ m2_ m3_ m4_ m5_ m6_
   generalize w85.setCell ⟨go_,0,none⟩ (.int .i64 x3_)=w86
   intro qc qe qg qd qm qt HC
   go_wp2
   have yk:=Ob qg.out.2 0
   have yq:w86.cell? ⟨g6,0,none⟩=some (.int .i64 a):=(Oc qg.out.2 0).trans rfl
   have yl:=Ob qg.out.2 1
   have yr:w86.cell? ⟨g6,1,none⟩=some (.int .i64 c):=(Oc qg.out.2 1).trans rfl
   have yj:=Ob qg.out.2 2
   have yt:w86.cell? ⟨g6,2,none⟩=some (.slice qq xs6.length qr):=(Oc qg.out.2 2).trans rfl
   have ya:=Ob qd.out.2 0
   have yc:w86.cell? ⟨g7,0,none⟩=some (.int .i64 a):=(Oc qd.out.2 0).trans rfl
   have yb:=Ob qd.out.2 1
   have yd:w86.cell? ⟨g7,1,none⟩=some (.int .i64 c):=(Oc qd.out.2 1).trans rfl
   have qz:=Ob qd.out.2 2
   have ye:w86.cell? ⟨g7,2,none⟩=some (.slice (some ⟨go_,0,none⟩) xs7.length qn):=(Oc qd.out.2 2).trans rfl
   have hf0a_:=Ob qc.out.2 0
   have hz0a_:w86.cell? ⟨g2,0,none⟩=some (.int .i64 0):=(Oc qc.out.2 0).trans rfl
   have hf1a_:=Ob qc.out.2 1
   have hz1a_:w86.cell? ⟨g2,1,none⟩=some (.int .i64 0):=(Oc qc.out.2 1).trans rfl
   have hf2a_:=Ob qc.out.2 2
   have hz2a_:w86.cell? ⟨g2,2,none⟩=some (.slice none 0 0):=(Oc qc.out.2 2).trans rfl
   have hf0b_:=Ob qe.out.2 0
   have hz0b_:w86.cell? ⟨g3,0,none⟩=some (.int .i64 0):=(Oc qe.out.2 0).trans rfl
   have hf1b_:=Ob qe.out.2 1
   have hz1b_:w86.cell? ⟨g3,1,none⟩=some (.int .i64 0):=(Oc qe.out.2 1).trans rfl
   have hf2b_:=Ob qe.out.2 2
   have hz2b_:w86.cell? ⟨g3,2,none⟩=some (.slice none 0 0):=(Oc qe.out.2 2).trans rfl
   have HV6:=Oa (R_okx (Kd.R_mono qm.out (fun _ hk=>hk.1)) qc.out qe.out)
   have HV7:=Oa (R_okx qt.out qc.out qe.out)
   have yf:=qa.out
   have hn32_:=qa.out.symm
   have ym:=qx.out
   have hn62_:=qx.out.symm
   have yn:=qu.out
   have hn72_:=qu.out.symm
   have yo:=qy.out
   have hn63_:=qy.out.symm
   have yp:=qv.out
   have hn73_:=qv.out.symm
   go_region_held3 (fun w'=>(w'.cell? ⟨g6,0,none⟩=some (.int .i64 a)∧w'.cell? ⟨g6,1,none⟩=some (.int .i64 c)∧w'.cell? ⟨g6,2,none⟩=some (.slice qq xs6.length qr))∧(w'.cell? ⟨g7,0,none⟩=some (.int .i64 a)∧w'.cell? ⟨g7,1,none⟩=some (.int .i64 c)∧w'.cell? ⟨g7,2,none⟩=some (.slice (some ⟨go_,0,none⟩) xs7.length qn))) (go_keep) (fail)
   all_goals go_wp2
   all_goals (((try simp only [Exit.inBlock,Exit.then]));first|(refine bodyPost_ret (results_cc rfl _ _ g2 g3 27 27 #[.int .i64 a,.int .i64 c,.slice qq xs6.length qr] #[.int .i64 a,.int .i64 c,.slice (some ⟨go_,0,none⟩) xs7.length qn] (0,0) (0,0) _ _ rfl (Blk.drew (Blk.far3 (qc.out.set3 (.int .i64 a) (.int .i64 c) (.slice qq xs6.length qr)) qa.out (.int .i64 a) (.int .i64 c) (.slice (some ⟨go_,0,none⟩) xs7.length qn))).2 Try.underlying27 rfl (by kernel_rfl) rfl (Blk.drew (Blk.set3 (qe.out.far3 qa.out.symm (.int .i64 a) (.int .i64 c) (.slice qq xs6.length qr)) (.int .i64 a) (.int .i64 c) (.slice (some ⟨go_,0,none⟩) xs7.length qn))).2 Try.underlying27 rfl (by kernel_rfl)) rfl ?_;exact⟨_,_,_,_,_,_,_,_,rfl,Og (Oh (V_set3 (V_set3 HV6.out (fun _ hk=>hk.1.2) (.int .i64 a) (.int .i64 c) (.slice qq xs6.length qr)) (fun _ hk=>hk.2) (.int .i64 a) (.int .i64 c) (.slice (some ⟨go_,0,none⟩) xs7.length qn))) (fun _ hk=>hk.1.1),Og (Oh (V_set3 (V_set3 HV7.out (fun _ hk=>hk.1.2) (.int .i64 a) (.int .i64 c) (.slice qq xs6.length qr)) (fun _ hk=>hk.2) (.int .i64 a) (.int .i64 c) (.slice (some ⟨go_,0,none⟩) xs7.length qn))) (fun _ hk=>hk.1.1),(by have h6_:=HL6.out;omega),(by first|(have h7_:=yh.out;omega)|(have h7_:=yh.out;simp only [List.length_set,List.length_drop];omega)|(have h8_:=HL8.out;omega)),(CurQ.drew (CurQ.set3 (CurQ.set3 HC.out qc.out HW.out (.int .i64 a) (.int .i64 c) (.slice qq xs6.length qr)) (qe.out.far3 qa.out.symm (.int .i64 a) (.int .i64 c) (.slice qq xs6.length qr)) HW.out (.int .i64 a) (.int .i64 c) (.slice (some ⟨go_,0,none⟩) xs7.length qn)))⟩)|(refine bodyPost_ret (results_cc rfl _ _ g2 g3 27 27 #[.int .i64 a,.int .i64 c,.slice qq xs6.length qr] #[.int .i64 a,.int .i64 c,.slice (some ⟨go_,0,none⟩) xs7.length qn] (0,0) (0,0) _ _ rfl (Blk.drew (Blk.set3 (qc.out.far3 qa.out (.int .i64 a) (.int .i64 c) (.slice (some ⟨go_,0,none⟩) xs7.length qn)) (.int .i64 a) (.int .i64 c) (.slice qq xs6.length qr))).2 Try.underlying27 rfl (by kernel_rfl) rfl (Blk.drew (Blk.far3 (qe.out.set3 (.int .i64 a) (.int .i64 c) (.slice (some ⟨go_,0,none⟩) xs7.length qn)) qa.out.symm (.int .i64 a) (.int .i64 c) (.slice qq xs6.length qr))).2 Try.underlying27 rfl (by kernel_rfl)) rfl ?_;exact⟨_,_,_,_,_,_,_,_,rfl,Og (Oh (V_set3 (V_set3 HV6.out (fun _ hk=>hk.2) (.int .i64 a) (.int .i64 c) (.slice (some ⟨go_,0,none⟩) xs7.length qn)) (fun _ hk=>hk.1.2) (.int .i64 a) (.int .i64 c) (.slice qq xs6.length qr))) (fun _ hk=>hk.1.1),Og (Oh (V_set3 (V_set3 HV7.out (fun _ hk=>hk.2) (.int .i64 a) (.int .i64 c) (.slice (some ⟨go_,0,none⟩) xs7.length qn)) (fun _ hk=>hk.1.2) (.int .i64 a) (.int .i64 c) (.slice qq xs6.length qr))) (fun _ hk=>hk.1.1),(by have h6_:=HL6.out;omega),(by first|(have h7_:=yh.out;omega)|(have h7_:=yh.out;simp only [List.length_set,List.length_drop];omega)|(have h8_:=HL8.out;omega)),(CurQ.drew (CurQ.set3 (CurQ.set3 HC.out qe.out HW.out (.int .i64 a) (.int .i64 c) (.slice (some ⟨go_,0,none⟩) xs7.length qn)) (qc.out.far3 qa.out (.int .i64 a) (.int .i64 c) (.slice (some ⟨go_,0,none⟩) xs7.length qn)) HW.out (.int .i64 a) (.int .i64 c) (.slice qq xs6.length qr)))⟩))
  ·have yk:=Ob qg.out.2 0
   have yq:ww1_.cell? ⟨g6,0,none⟩=some (.int .i64 zb):=(Oc qg.out.2 0).trans rfl
   have yl:=Ob qg.out.2 1
   have yr:ww1_.cell? ⟨g6,1,none⟩=some (.int .i64 c):=(Oc qg.out.2 1).trans rfl
   have yj:=Ob qg.out.2 2
   have yt:ww1_.cell? ⟨g6,2,none⟩=some (.slice qq xs6.length qr):=(Oc qg.out.2 2).trans rfl
   have ya:=Ob qd.out.2 0
   have yc:ww1_.cell? ⟨g7,0,none⟩=some (.int .i64 a):=(Oc qd.out.2 0).trans rfl
   have yb:=Ob qd.out.2 1
   have yd:ww1_.cell? ⟨g7,1,none⟩=some (.int .i64 c):=(Oc qd.out.2 1).trans rfl
   have qz:=Ob qd.out.2 2
   have ye:ww1_.cell? ⟨g7,2,none⟩=some (.slice qw xs7.length qn):=(Oc qd.out.2 2).trans rfl
   have hf0a_:=Ob qc.out.2 0
   have hz0a_:ww1_.cell? ⟨g2,0,none⟩=some (.int .i64 0):=(Oc qc.out.2 0).trans rfl
   have hf1a_:=Ob qc.out.2 1
   have hz1a_:ww1_.cell? ⟨g2,1,none⟩=some (.int .i64 0):=(Oc qc.out.2 1).trans rfl
   have hf2a_:=Ob qc.out.2 2
   have hz2a_:ww1_.cell? ⟨g2,2,none⟩=some (.slice none 0 0):=(Oc qc.out.2 2).trans rfl
   have hf0b_:=Ob qe.out.2 0
   have hz0b_:ww1_.cell? ⟨g3,0,none⟩=some (.int .i64 0):=(Oc qe.out.2 0).trans rfl
   have hf1b_:=Ob qe.out.2 1
   have hz1b_:ww1_.cell? ⟨g3,1,none⟩=some (.int .i64 0):=(Oc qe.out.2 1).trans rfl
   have hf2b_:=Ob qe.out.2 2
   have hz2b_:ww1_.cell? ⟨g3,2,none⟩=some (.slice none 0 0):=(Oc qe.out.2 2).trans rfl
   have HV6:=Oa (R_okx (Kd.R_mono qm.out (fun _ hk=>hk.1)) qc.out qe.out)
   have HV7:=Oa (R_okx qt.out qc.out qe.out)
   have yf:=qa.out
   have hn32_:=qa.out.symm
   have ym:=qx.out
   have hn62_:=qx.out.symm
   have yn:=qu.out
   have hn72_:=qu.out.symm
   have yo:=qy.out
   have hn63_:=qy.out.symm
   have yp:=qv.out
   have hn73_:=qv.out.symm
   go_region_held3 (fun w'=>(w'.cell? ⟨g6,0,none⟩=some (.int .i64 zb)∧w'.cell? ⟨g6,1,none⟩=some (.int .i64 c)∧w'.cell? ⟨g6,2,none⟩=some (.slice qq xs6.length qr))∧(w'.cell? ⟨g7,0,none⟩=some (.int .i64 a)∧w'.cell? ⟨g7,1,none⟩=some (.int .i64 c)∧w'.cell? ⟨g7,2,none⟩=some (.slice qw xs7.length qn))) (go_keep) (fail)
   all_goals go_wp2
   all_goals (((try simp only [Exit.inBlock,Exit.then]));first|(refine bodyPost_ret (results_cc rfl _ _ g2 g3 27 27 #[.int .i64 zb,.int .i64 c,.slice qq xs6.length qr] #[.int .i64 a,.int .i64 c,.slice qw xs7.length qn] (0,0) (0,0) _ _ rfl (Blk.drew (Blk.far3 (qc.out.set3 (.int .i64 zb) (.int .i64 c) (.slice qq xs6.length qr)) qa.out (.int .i64 a) (.int .i64 c) (.slice qw xs7.length qn))).2 Try.underlying27 rfl (by kernel_rfl) rfl (Blk.drew (Blk.set3 (qe.out.far3 qa.out.symm (.int .i64 zb) (.int .i64 c) (.slice qq xs6.length qr)) (.int .i64 a) (.int .i64 c) (.slice qw xs7.length qn))).2 Try.underlying27 rfl (by kernel_rfl)) rfl ?_;exact⟨_,_,_,_,_,_,_,_,rfl,Og (Oh (V_set3 (V_set3 HV6.out (fun _ hk=>hk.1.2) (.int .i64 zb) (.int .i64 c) (.slice qq xs6.length qr)) (fun _ hk=>hk.2) (.int .i64 a) (.int .i64 c) (.slice qw xs7.length qn))) (fun _ hk=>hk.1.1),Og (Oh (V_set3 (V_set3 HV7.out (fun _ hk=>hk.1.2) (.int .i64 zb) (.int .i64 c) (.slice qq xs6.length qr)) (fun _ hk=>hk.2) (.int .i64 a) (.int .i64 c) (.slice qw xs7.length qn))) (fun _ hk=>hk.1.1),(by have h6_:=HL6.out;omega),(by first|(have h7_:=yh.out;omega)|(have h7_:=yh.out;simp only [List.length_set,List.length_drop];omega)|(have h8_:=HL8.out;omega)),(CurQ.drew (CurQ.set3 (CurQ.set3 HC.out qc.out HW.out (.int .i64 zb) (.int .i64 c) (.slice qq xs6.length qr)) (qe.out.far3 qa.out.symm (.int .i64 zb) (.int .i64 c) (.slice qq xs6.length qr)) HW.out (.int .i64 a) (.int .i64 c) (.slice qw xs7.length qn)))⟩)|(refine bodyPost_ret (results_cc rfl _ _ g2 g3 27 27 #[.int .i64 zb,.int .i64 c,.slice qq xs6.length qr] #[.int .i64 a,.int .i64 c,.slice qw xs7.length qn] (0,0) (0,0) _ _ rfl (Blk.drew (Blk.set3 (qc.out.far3 qa.out (.int .i64 a) (.int .i64 c) (.slice qw xs7.length qn)) (.int .i64 zb) (.int .i64 c) (.slice qq xs6.length qr))).2 Try.underlying27 rfl (by kernel_rfl) rfl (Blk.drew (Blk.far3 (qe.out.set3 (.int .i64 a) (.int .i64 c) (.slice qw xs7.length qn)) qa.out.symm (.int .i64 zb) (.int .i64 c) (.slice qq xs6.length qr))).2 Try.underlying27 rfl (by kernel_rfl)) rfl ?_;exact⟨_,_,_,_,_,_,_,_,rfl,Og (Oh (V_set3 (V_set3 HV6.out (fun _ hk=>hk.2) (.int .i64 a) (.int .i64 c) (.slice qw xs7.length qn)) (fun _ hk=>hk.1.2) (.int .i64 zb) (.int .i64 c) (.slice qq xs6.length qr))) (fun _ hk=>hk.1.1),Og (Oh (V_set3 (V_set3 HV7.out (fun _ hk=>hk.2) (.int .i64 a) (.int .i64 c) (.slice qw xs7.length qn)) (fun _ hk=>hk.1.2) (.int .i64 zb) (.int .i64 c) (.slice qq xs6.length qr))) (fun _ hk=>hk.1.1),(by have h6_:=HL6.out;omega),(by first|(have h7_:=yh.out;omega)|(have h7_:=yh.out;simp only [List.length_set,List.length_drop];omega)|(have h8_:=HL8.out;omega)),(CurQ.drew (CurQ.set3 (CurQ.set3 HC.out qe.out HW.out (.int .i64 a) (.int .i64 c) (.slice qw xs7.length qn)) (qc.out.far3 qa.out (.int .i64 a) (.int .i64 c) (.slice qw xs7.length qn)) HW.out (.int .i64 zb) (.int .i64 c) (.slice qq xs6.length qr)))⟩))
  ·have yk:=Ob qg.out.2 0
   have yq:ww2_.cell? ⟨g6,0,none⟩=some (.int .i64 a):=(Oc qg.out.2 0).trans rfl
   have yl:=Ob qg.out.2 1
   have yr:ww2_.cell? ⟨g6,1,none⟩=some (.int .i64 c):=(Oc qg.out.2 1).trans rfl
   have yj:=Ob qg.out.2 2
   have yt:ww2_.cell? ⟨g6,2,none⟩=some (.slice qq xs6.length qr):=(Oc qg.out.2 2).trans rfl
   have ya:=Ob qd.out.2 0
   have yc:ww2_.cell? ⟨g7,0,none⟩=some (.int .i64 a):=(Oc qd.out.2 0).trans rfl
   have yb:=Ob qd.out.2 1
   have yd:ww2_.cell? ⟨g7,1,none⟩=some (.int .i64 c):=(Oc qd.out.2 1).trans rfl
   have qz:=Ob qd.out.2 2
   have ye:ww2_.cell? ⟨g7,2,none⟩=some (.slice yi (xs7.length - 1) (qn - 1)):=(Oc qd.out.2 2).trans rfl
   have hf0a_:=Ob qc.out.2 0
   have hz0a_:ww2_.cell? ⟨g2,0,none⟩=some (.int .i64 0):=(Oc qc.out.2 0).trans rfl
   have hf1a_:=Ob qc.out.2 1
   have hz1a_:ww2_.cell? ⟨g2,1,none⟩=some (.int .i64 0):=(Oc qc.out.2 1).trans rfl
   have hf2a_:=Ob qc.out.2 2
   have hz2a_:ww2_.cell? ⟨g2,2,none⟩=some (.slice none 0 0):=(Oc qc.out.2 2).trans rfl
   have hf0b_:=Ob qe.out.2 0
   have hz0b_:ww2_.cell? ⟨g3,0,none⟩=some (.int .i64 0):=(Oc qe.out.2 0).trans rfl
   have hf1b_:=Ob qe.out.2 1
   have hz1b_:ww2_.cell? ⟨g3,1,none⟩=some (.int .i64 0):=(Oc qe.out.2 1).trans rfl
   have hf2b_:=Ob qe.out.2 2
   have hz2b_:ww2_.cell? ⟨g3,2,none⟩=some (.slice none 0 0):=(Oc qe.out.2 2).trans rfl
   have HV6:=Oa (R_okx (Kd.R_mono qm.out (fun _ hk=>hk.1)) qc.out qe.out)
   have yf:=qa.out
   have hn32_:=qa.out.symm
   have ym:=qx.out
   have hn62_:=qx.out.symm
   have yn:=qu.out
   have hn72_:=qu.out.symm
   have yo:=qy.out
   have hn63_:=qy.out.symm
   have yp:=qv.out
   have hn73_:=qv.out.symm
   go_region_held3 (fun w'=>(w'.cell? ⟨g6,0,none⟩=some (.int .i64 a)∧w'.cell? ⟨g6,1,none⟩=some (.int .i64 c)∧w'.cell? ⟨g6,2,none⟩=some (.slice qq xs6.length qr))∧(w'.cell? ⟨g7,0,none⟩=some (.int .i64 a)∧w'.cell? ⟨g7,1,none⟩=some (.int .i64 c)∧w'.cell? ⟨g7,2,none⟩=some (.slice yi (xs7.length - 1) (qn - 1)))) (go_keep) (fail)
   all_goals go_wp2
   all_goals (((try simp only [Exit.inBlock,Exit.then]));first|(refine bodyPost_ret (results_cc rfl _ _ g2 g3 27 27 #[.int .i64 a,.int .i64 c,.slice qq xs6.length qr] #[.int .i64 a,.int .i64 c,.slice yi (xs7.length - 1) (qn - 1)] (0,0) (0,0) _ _ rfl (Blk.drew (Blk.far3 (qc.out.set3 (.int .i64 a) (.int .i64 c) (.slice qq xs6.length qr)) qa.out (.int .i64 a) (.int .i64 c) (.slice yi (xs7.length - 1) (qn - 1)))).2 Try.underlying27 rfl (by kernel_rfl) rfl (Blk.drew (Blk.set3 (qe.out.far3 qa.out.symm (.int .i64 a) (.int .i64 c) (.slice qq xs6.length qr)) (.int .i64 a) (.int .i64 c) (.slice yi (xs7.length - 1) (qn - 1)))).2 Try.underlying27 rfl (by kernel_rfl)) rfl ?_;exact⟨_,_,_,_,_,_,_,_,rfl,Og (Oh (V_set3 (V_set3 HV6.out (fun _ hk=>hk.1.2) (.int .i64 a) (.int .i64 c) (.slice qq xs6.length qr)) (fun _ hk=>hk.2) (.int .i64 a) (.int .i64 c) (.slice yi (xs7.length - 1) (qn - 1)))) (fun _ hk=>hk.1.1),Og (Oh (V_set3 (V_set3 HV7.out (fun _ hk=>hk.1.2) (.int .i64 a) (.int .i64 c) (.slice qq xs6.length qr)) (fun _ hk=>hk.2) (.int .i64 a) (.int .i64 c) (.slice yi (xs7.length - 1) (qn - 1)))) (fun _ hk=>hk.1.1),(by have h6_:=HL6.out;omega),(by first|(have h7_:=yh.out;omega)|(have h7_:=yh.out;simp only [List.length_set,List.length_drop];omega)|(have h8_:=HL8.out;omega)),(CurQ.drew (CurQ.set3 (CurQ.set3 HC.out qc.out HW.out (.int .i64 a) (.int .i64 c) (.slice qq xs6.length qr)) (qe.out.far3 qa.out.symm (.int .i64 a) (.int .i64 c) (.slice qq xs6.length qr)) HW.out (.int .i64 a) (.int .i64 c) (.slice yi (xs7.length - 1) (qn - 1))))⟩)|(refine bodyPost_ret (results_cc rfl _ _ g2 g3 27 27 #[.int .i64 a,.int .i64 c,.slice qq xs6.length qr] #[.int .i64 a,.int .i64 c,.slice yi (xs7.length - 1) (qn - 1)] (0,0) (0,0) _ _ rfl (Blk.drew (Blk.set3 (qc.out.far3 qa.out (.int .i64 a) (.int .i64 c) (.slice yi (xs7.length - 1) (qn - 1))) (.int .i64 a) (.int .i64 c) (.slice qq xs6.length qr))).2 Try.underlying27 rfl (by kernel_rfl) rfl (Blk.drew (Blk.far3 (qe.out.set3 (.int .i64 a) (.int .i64 c) (.slice yi (xs7.length - 1) (qn - 1))) qa.out.symm (.int .i64 a) (.int .i64 c) (.slice qq xs6.length qr))).2 Try.underlying27 rfl (by kernel_rfl)) rfl ?_;exact⟨_,_,_,_,_,_,_,_,rfl,Og (Oh (V_set3 (V_set3 HV6.out (fun _ hk=>hk.2) (.int .i64 a) (.int .i64 c) (.slice yi (xs7.length - 1) (qn - 1))) (fun _ hk=>hk.1.2) (.int .i64 a) (.int .i64 c) (.slice qq xs6.length qr))) (fun _ hk=>hk.1.1),Og (Oh (V_set3 (V_set3 HV7.out (fun _ hk=>hk.2) (.int .i64 a) (.int .i64 c) (.slice yi (xs7.length - 1) (qn - 1))) (fun _ hk=>hk.1.2) (.int .i64 a) (.int .i64 c) (.slice qq xs6.length qr))) (fun _ hk=>hk.1.1),(by have h6_:=HL6.out;omega),(by first|(have h7_:=yh.out;omega)|(have h7_:=yh.out;simp only [List.length_set,List.length_drop];omega)|(have h8_:=HL8.out;omega)),(CurQ.drew (CurQ.set3 (CurQ.set3 HC.out qe.out HW.out (.int .i64 a) (.int .i64 c) (.slice yi (xs7.length - 1) (qn - 1))) (qc.out.far3 qa.out (.int .i64 a) (.int .i64 c) (.slice yi (xs7.length - 1) (qn - 1))) HW.out (.int .i64 a) (.int .i64 c) (.slice qq xs6.length qr)))⟩))
  ·have yk:=Ob qg.out.2 0
   have yq:zc.cell? ⟨g6,0,none⟩=some (.int .i64 a):=(Oc qg.out.2 0).trans rfl
   have yl:=Ob qg.out.2 1
   have yr:zc.cell? ⟨g6,1,none⟩=some (.int .i64 c):=(Oc qg.out.2 1).trans rfl
   have yj:=Ob qg.out.2 2
   have yt:zc.cell? ⟨g6,2,none⟩=some (.slice qq xs6.length qr):=(Oc qg.out.2 2).trans rfl
   have ya:=Ob qd.out.2 0
   have yc:zc.cell? ⟨g7,0,none⟩=some (.int .i64 c):=(Oc qd.out.2 0).trans rfl
   have yb:=Ob qd.out.2 1
   have yd:zc.cell? ⟨g7,1,none⟩=some (.int .i64 a):=(Oc qd.out.2 1).trans rfl
   have qz:=Ob qd.out.2 2
   have ye:zc.cell? ⟨g7,2,none⟩=some (.slice yx yu.length yy):=(Oc qd.out.2 2).trans rfl
   have hf0a_:=Ob qc.out.2 0
   have hz0a_:zc.cell? ⟨g2,0,none⟩=some (.int .i64 0):=(Oc qc.out.2 0).trans rfl
   have hf1a_:=Ob qc.out.2 1
   have hz1a_:zc.cell? ⟨g2,1,none⟩=some (.int .i64 0):=(Oc qc.out.2 1).trans rfl
   have hf2a_:=Ob qc.out.2 2
   have hz2a_:zc.cell? ⟨g2,2,none⟩=some (.slice none 0 0):=(Oc qc.out.2 2).trans rfl
   have hf0b_:=Ob qe.out.2 0
   have hz0b_:zc.cell? ⟨g3,0,none⟩=some (.int .i64 0):=(Oc qe.out.2 0).trans rfl
   have hf1b_:=Ob qe.out.2 1
   have hz1b_:zc.cell? ⟨g3,1,none⟩=some (.int .i64 0):=(Oc qe.out.2 1).trans rfl
   have hf2b_:=Ob qe.out.2 2
   have hz2b_:zc.cell? ⟨g3,2,none⟩=some (.slice none 0 0):=(Oc qe.out.2 2).trans rfl
   have HV6:=Oa (R_okx (Kd.R_mono qm.out (fun _ hk=>hk.1)) qc.out qe.out)
   have HV7:=Oa (R_okx HR8.out qc.out qe.out)
   have yf:=qa.out
   have hn32_:=qa.out.symm
   have ym:=qx.out
   have hn62_:=qx.out.symm
   have yn:=qu.out
   have hn72_:=qu.out.symm
   have yo:=qy.out
   have hn63_:=qy.out.symm
   have yp:=qv.out
   have hn73_:=qv.out.symm
   go_region_held3 (fun w'=>(w'.cell? ⟨g6,0,none⟩=some (.int .i64 a)∧w'.cell? ⟨g6,1,none⟩=some (.int .i64 c)∧w'.cell? ⟨g6,2,none⟩=some (.slice qq xs6.length qr))∧(w'.cell? ⟨g7,0,none⟩=some (.int .i64 c)∧w'.cell? ⟨g7,1,none⟩=some (.int .i64 a)∧w'.cell? ⟨g7,2,none⟩=some (.slice yx yu.length yy))) (go_keep) (fail)
   all_goals go_wp2
   all_goals (((try simp only [Exit.inBlock,Exit.then]));first|(refine bodyPost_ret (results_cc rfl _ _ g2 g3 27 27 #[.int .i64 a,.int .i64 c,.slice qq xs6.length qr] #[.int .i64 c,.int .i64 a,.slice yx yu.length yy] (0,0) (0,0) _ _ rfl (Blk.drew (Blk.far3 (qc.out.set3 (.int .i64 a) (.int .i64 c) (.slice qq xs6.length qr)) qa.out (.int .i64 c) (.int .i64 a) (.slice yx yu.length yy))).2 Try.underlying27 rfl (by kernel_rfl) rfl (Blk.drew (Blk.set3 (qe.out.far3 qa.out.symm (.int .i64 a) (.int .i64 c) (.slice qq xs6.length qr)) (.int .i64 c) (.int .i64 a) (.slice yx yu.length yy))).2 Try.underlying27 rfl (by kernel_rfl)) rfl ?_;exact⟨_,_,_,_,_,_,_,_,rfl,Og (Oh (V_set3 (V_set3 HV6.out (fun _ hk=>hk.1.2) (.int .i64 a) (.int .i64 c) (.slice qq xs6.length qr)) (fun _ hk=>hk.2) (.int .i64 c) (.int .i64 a) (.slice yx yu.length yy))) (fun _ hk=>hk.1.1),Og (Oh (V_set3 (V_set3 HV7.out (fun _ hk=>hk.1.2) (.int .i64 a) (.int .i64 c) (.slice qq xs6.length qr)) (fun _ hk=>hk.2) (.int .i64 c) (.int .i64 a) (.slice yx yu.length yy))) (fun _ hk=>hk.1.1),(by have h6_:=HL6.out;omega),(by first|(have h7_:=yh.out;omega)|(have h7_:=yh.out;simp only [List.length_set,List.length_drop];omega)|(have h8_:=HL8.out;omega)),(CurQ.drew (CurQ.set3 (CurQ.set3 HC.out qc.out HW.out (.int .i64 a) (.int .i64 c) (.slice qq xs6.length qr)) (qe.out.far3 qa.out.symm (.int .i64 a) (.int .i64 c) (.slice qq xs6.length qr)) HW.out (.int .i64 c) (.int .i64 a) (.slice yx yu.length yy)))⟩)|(refine bodyPost_ret (results_cc rfl _ _ g2 g3 27 27 #[.int .i64 a,.int .i64 c,.slice qq xs6.length qr] #[.int .i64 c,.int .i64 a,.slice yx yu.length yy] (0,0) (0,0) _ _ rfl (Blk.drew (Blk.set3 (qc.out.far3 qa.out (.int .i64 c) (.int .i64 a) (.slice yx yu.length yy)) (.int .i64 a) (.int .i64 c) (.slice qq xs6.length qr))).2 Try.underlying27 rfl (by kernel_rfl) rfl (Blk.drew (Blk.far3 (qe.out.set3 (.int .i64 c) (.int .i64 a) (.slice yx yu.length yy)) qa.out.symm (.int .i64 a) (.int .i64 c) (.slice qq xs6.length qr))).2 Try.underlying27 rfl (by kernel_rfl)) rfl ?_;exact⟨_,_,_,_,_,_,_,_,rfl,Og (Oh (V_set3 (V_set3 HV6.out (fun _ hk=>hk.2) (.int .i64 c) (.int .i64 a) (.slice yx yu.length yy)) (fun _ hk=>hk.1.2) (.int .i64 a) (.int .i64 c) (.slice qq xs6.length qr))) (fun _ hk=>hk.1.1),Og (Oh (V_set3 (V_set3 HV7.out (fun _ hk=>hk.2) (.int .i64 c) (.int .i64 a) (.slice yx yu.length yy)) (fun _ hk=>hk.1.2) (.int .i64 a) (.int .i64 c) (.slice qq xs6.length qr))) (fun _ hk=>hk.1.1),(by have h6_:=HL6.out;omega),(by first|(have h7_:=yh.out;omega)|(have h7_:=yh.out;simp only [List.length_set,List.length_drop];omega)|(have h8_:=HL8.out;omega)),(CurQ.drew (CurQ.set3 (CurQ.set3 HC.out qe.out HW.out (.int .i64 c) (.int .i64 a) (.slice yx yu.length yy)) (qc.out.far3 qa.out (.int .i64 c) (.int .i64 a) (.slice yx yu.length yy)) HW.out (.int .i64 a) (.int .i64 c) (.slice qq xs6.length qr)))⟩))
  ·have yk:=Ob qg.out.2 0
   have yq:wc_.cell? ⟨g6,0,none⟩=some (.int .i64 a):=(Oc qg.out.2 0).trans rfl
   have yl:=Ob qg.out.2 1
   have yr:wc_.cell? ⟨g6,1,none⟩=some (.int .i64 c):=(Oc qg.out.2 1).trans rfl
   have yj:=Ob qg.out.2 2
   have yt:wc_.cell? ⟨g6,2,none⟩=some (.slice qq xs6.length qr):=(Oc qg.out.2 2).trans rfl
   have ya:=Ob qd.out.2 0
   have yc:wc_.cell? ⟨g7,0,none⟩=some (.int .i64 a):=(Oc qd.out.2 0).trans rfl
   have yb:=Ob qd.out.2 1
   have yd:wc_.cell? ⟨g7,1,none⟩=some (.int .i64 c):=(Oc qd.out.2 1).trans rfl
   have qz:=Ob qd.out.2 2
   have ye:wc_.cell? ⟨g7,2,none⟩=some (.slice qw xs7.length qn):=(Oc qd.out.2 2).trans rfl
   have hf0a_:=Ob qc.out.2 0
   have hz0a_:wc_.cell? ⟨g2,0,none⟩=some (.int .i64 0):=(Oc qc.out.2 0).trans rfl
   have hf1a_:=Ob qc.out.2 1
   have hz1a_:wc_.cell? ⟨g2,1,none⟩=some (.int .i64 0):=(Oc qc.out.2 1).trans rfl
   have hf2a_:=Ob qc.out.2 2
   have hz2a_:wc_.cell? ⟨g2,2,none⟩=some (.slice none 0 0):=(Oc qc.out.2 2).trans rfl
   have hf0b_:=Ob qe.out.2 0
   have hz0b_:wc_.cell? ⟨g3,0,none⟩=some (.int .i64 0):=(Oc qe.out.2 0).trans rfl
   have hf1b_:=Ob qe.out.2 1
   have hz1b_:wc_.cell? ⟨g3,1,none⟩=some (.int .i64 0):=(Oc qe.out.2 1).trans rfl
   have hf2b_:=Ob qe.out.2 2
   have hz2b_:wc_.cell? ⟨g3,2,none⟩=some (.slice none 0 0):=(Oc qe.out.2 2).trans rfl
   have HV6:=Oa (R_okx (Kd.R_mono qm.out (fun _ hk=>hk.1)) qc.out qe.out)
   have HV7:=Oa (R_okx qt.out qc.out qe.out)
   have yf:=qa.out
   have hn32_:=qa.out.symm
   have ym:=qx.out
   have hn62_:=qx.out.symm
   have yn:=qu.out
   have hn72_:=qu.out.symm
   have yo:=qy.out
   have hn63_:=qy.out.symm
   have yp:=qv.out
   have hn73_:=qv.out.symm
   go_region_held3 (fun w'=>(w'.cell? ⟨g6,0,none⟩=some (.int .i64 a)∧w'.cell? ⟨g6,1,none⟩=some (.int .i64 c)∧w'.cell? ⟨g6,2,none⟩=some (.slice qq xs6.length qr))∧(w'.cell? ⟨g7,0,none⟩=some (.int .i64 a)∧w'.cell? ⟨g7,1,none⟩=some (.int .i64 c)∧w'.cell? ⟨g7,2,none⟩=some (.slice qw xs7.length qn))) (go_keep) (fail)
   all_goals go_wp2
   all_goals (((try simp only [Exit.inBlock,Exit.then]));first|(refine bodyPost_ret (results_cc rfl _ _ g2 g3 27 27 #[.int .i64 a,.int .i64 c,.slice qq xs6.length qr] #[.int .i64 a,.int .i64 c,.slice qw xs7.length qn] (0,0) (0,0) _ _ rfl (Blk.drew (Blk.far3 (qc.out.set3 (.int .i64 a) (.int .i64 c) (.slice qq xs6.length qr)) qa.out (.int .i64 a) (.int .i64 c) (.slice qw xs7.length qn))).2 Try.underlying27 rfl (by kernel_rfl) rfl (Blk.drew (Blk.set3 (qe.out.far3 qa.out.symm (.int .i64 a) (.int .i64 c) (.slice qq xs6.length qr)) (.int .i64 a) (.int .i64 c) (.slice qw xs7.length qn))).2 Try.underlying27 rfl (by kernel_rfl)) rfl ?_;exact⟨_,_,_,_,_,_,_,_,rfl,Og (Oh (V_set3 (V_set3 HV6.out (fun _ hk=>hk.1.2) (.int .i64 a) (.int .i64 c) (.slice qq xs6.length qr)) (fun _ hk=>hk.2) (.int .i64 a) (.int .i64 c) (.slice qw xs7.length qn))) (fun _ hk=>hk.1.1),Og (Oh (V_set3 (V_set3 HV7.out (fun _ hk=>hk.1.2) (.int .i64 a) (.int .i64 c) (.slice qq xs6.length qr)) (fun _ hk=>hk.2) (.int .i64 a) (.int .i64 c) (.slice qw xs7.length qn))) (fun _ hk=>hk.1.1),(by have h6_:=HL6.out;omega),(by first|(have h7_:=yh.out;omega)|(have h7_:=yh.out;simp only [List.length_set,List.length_drop];omega)|(have h8_:=HL8.out;omega)),(CurQ.drew (CurQ.set3 (CurQ.set3 HC.out qc.out HW.out (.int .i64 a) (.int .i64 c) (.slice qq xs6.length qr)) (qe.out.far3 qa.out.symm (.int .i64 a) (.int .i64 c) (.slice qq xs6.length qr)) HW.out (.int .i64 a) (.int .i64 c) (.slice qw xs7.length qn)))⟩)|(refine bodyPost_ret (results_cc rfl _ _ g2 g3 27 27 #[.int .i64 a,.int .i64 c,.slice qq xs6.length qr] #[.int .i64 a,.int .i64 c,.slice qw xs7.length qn] (0,0) (0,0) _ _ rfl (Blk.drew (Blk.set3 (qc.out.far3 qa.out (.int .i64 a) (.int .i64 c) (.slice qw xs7.length qn)) (.int .i64 a) (.int .i64 c) (.slice qq xs6.length qr))).2 Try.underlying27 rfl (by kernel_rfl) rfl (Blk.drew (Blk.far3 (qe.out.set3 (.int .i64 a) (.int .i64 c) (.slice qw xs7.length qn)) qa.out.symm (.int .i64 a) (.int .i64 c) (.slice qq xs6.length qr))).2 Try.underlying27 rfl (by kernel_rfl)) rfl ?_;exact⟨_,_,_,_,_,_,_,_,rfl,Og (Oh (V_set3 (V_set3 HV6.out (fun _ hk=>hk.2) (.int .i64 a) (.int .i64 c) (.slice qw xs7.length qn)) (fun _ hk=>hk.1.2) (.int .i64 a) (.int .i64 c) (.slice qq xs6.length qr))) (fun _ hk=>hk.1.1),Og (Oh (V_set3 (V_set3 HV7.out (fun _ hk=>hk.2) (.int .i64 a) (.int .i64 c) (.slice qw xs7.length qn)) (fun _ hk=>hk.1.2) (.int .i64 a) (.int .i64 c) (.slice qq xs6.length qr))) (fun _ hk=>hk.1.1),(by have h6_:=HL6.out;omega),(by first|(have h7_:=yh.out;omega)|(have h7_:=yh.out;simp only [List.length_set,List.length_drop];omega)|(have h8_:=HL8.out;omega)),(CurQ.drew (CurQ.set3 (CurQ.set3 HC.out qe.out HW.out (.int .i64 a) (.int .i64 c) (.slice qw xs7.length qn)) (qc.out.far3 qa.out (.int .i64 a) (.int .i64 c) (.slice qw xs7.length qn)) HW.out (.int .i64 a) (.int .i64 c) (.slice qq xs6.length qr)))⟩))

set_option maxHeartbeats 4000000 in
set_option maxRecDepth 100000 in
theorem spec_l14DrawQ.calls {b : List Int} {g : Nat} {w0 wc w : World} (h : CurQ w0 b g wc w) :
  Calls Try.prog 81 #[.pointer (some ⟨g,0,none⟩)] w fun e w'=>∃ q:Int,e=.returned (.int .i64 q)∧CurQ w0 b g w w':=by
 have HC:=Oa h.from_
 clear h
 go_enter Try.func81,Try.ntmps81
 go_wp2_with (first|(go_at_call 64;(with_reducible refine(cur_once (w0:=w0) (w:=w) (b:=b) 12 ?c1).mono ?_);(case c1=>exact(by repeat with_reducible first|exact HC.out|apply CurQ.al|apply CurQ.dn));rintro e wc_ ⟨q1_,rfl,hc_⟩;have mc_:=Oa (CurQ.trans (by repeat with_reducible first|exact HC.out|apply CurQ.al|apply CurQ.dn) hc_);clear HC;have HC:=mc_;clear mc_;clear hc_)|((with_reducible refine gate_dst (N:=5) rfl ?_);refine Kd.R_lit (Kd.int .i64) _ 2 ?hg (N:=5) ?hd (xs:=[0,1,64,65]) (inner:=[.int .i64 (0),.int .i64 (1),.int .i64 (64),.int .i64 (65)]) (ok:=(fun k_=>w.heap.size≤k_)) (okp:=(fun k_=>w.heap.size≤k_)) ?hr ?hp (fun _ hk=>hk) (cur_size (by repeat with_reducible first|exact HC.out|apply CurQ.al|apply CurQ.dn)) (Below.refl _ _) (Nat.le_refl _) (by simp) ?_;(case hd=>rfl);(case hg=>rfl);(case hr=>first|(go_simp;done)|(go_simp;rfl));(case hp=>exact lit_i _);intro vl_ wl_ hol_ hb_ hg_ hnew_;clear hg_ hnew_;have HRL:=Oa (Kd.R_lower hol_ (Below.size (cur_blw (by repeat with_reducible first|exact HC.out|apply CurQ.al|apply CurQ.dn))));clear hol_;have mc_:=Oa (CurQ.below (by repeat with_reducible first|exact HC.out|apply CurQ.al|apply CurQ.dn) hb_);clear HC;have HC:=mc_;clear mc_;clear hb_;obtain⟨Al_,cl_,el_⟩:=Kd.R_slice HRL.out;subst el_)|(go_at_call 65;(with_reducible refine(cur_below (w0:=w0) (w:=w) (b:=b) 4 ?c1).mono ?_);(case c1=>exact(by repeat with_reducible first|exact HC.out|apply CurQ.al|apply CurQ.dn));rintro e wc_ ⟨r4_,rfl,⟨h40_,h41_⟩,hc_⟩;have qh:=Oa (R_curI (e:=2) (d:=Kd.int .i64) (by decide) (by(with_reducible repeat(first|apply Oe|apply Of|apply Od));exact HRL.out) (by repeat with_reducible first|exact HC.out|apply CurQ.al|apply CurQ.dn) hc_);have mc_:=Oa (CurQ.trans (by repeat with_reducible first|exact HC.out|apply CurQ.al|apply CurQ.dn) hc_);clear HC;have HC:=mc_;clear mc_;clear HRL;have HRL:=qh;clear qh;clear hc_;obtain⟨adl_,el_,hxl_⟩:=Kd.at_int (Kd.R_reads' HRL.out).2.2 r4_ h40_ (by have h_:=h41_ (by decide);simpa using h_);cases el_;have pl_:(0≤r4_)=True:=eq_true h40_;have ql_:(r4_ < 4)=True:=eq_true (h41_ (by decide)))|(go_at_call 65;(with_reducible refine(cur_below (w0:=w0) (w:=w) (b:=b) 12 ?c1).mono ?_);(case c1=>exact(by repeat with_reducible first|exact HC.out|apply CurQ.al|apply CurQ.dn));rintro e wc_ ⟨r_,rfl,⟨_,_⟩,hc_⟩;have mc_:=Oa (CurQ.trans (by repeat with_reducible first|exact HC.out|apply CurQ.al|apply CurQ.dn) hc_);clear HC;have HC:=mc_;clear mc_;clear hc_))
 all_goals
  go_ret
  exact⟨_,rfl,(by repeat with_reducible first|exact HC.out|apply CurQ.al|apply CurQ.dn)⟩

set_option maxHeartbeats 4000000 in
set_option maxRecDepth 100000 in
theorem spec_DrawEncode.calls (A0 : Option Addr) (c0 : Nat) (l0 : List Int) (w : World) (hr0 : Kd.C (Kd.int .u8) w A0 l0.length l0) (hc0 : l0.length ≤ c0) (hl : l0.length ≤ 4096) :
  Calls Try.prog 45 #[.slice A0 l0.length c0] w fun e w'=>∃ (a c a2 c2:Int) (v0 v1:Value) (xs ys:List Int) (q:Int),e=.returned (.tuple #[.agg #[.int .i64 a,.int .i64 c,v0],.agg #[.int .i64 a2,.int .i64 c2,v1],.int .i64 q])∧Kd.V (Kd.int .i64) 2 w' 0 (fun _=>True) v0 xs∧Kd.V (Kd.int .i64) 2 w' 0 (fun _=>True) v1 ys∧xs.length≤1000∧ys.length≤1000∧Below w.heap.size w w':=by
 have HB:=Oa (Below.refl w.heap.size w)
 go_enter Try.func45,Try.ntmps45
 go_wp2_with (first|((with_reducible refine gate_dst (N:=2) rfl ?_);refine box_event ?hg (N:=2) ?hd (cs:=#[.int .i64 0,.int .i64 0,.slice none 0 0]) (t:=27) ?hr ?_;(case hd=>rfl);(case hg=>rfl);(case hr=>first|(go_simp;done)|(go_simp;rfl));intro g2 hg_ wa_ hbox_ hb_;have nz_:=Oa (show Blk w wa_ g2 #[.int .i64 0,.int .i64 0,.slice none 0 0] from⟨by rw [hg_];exact Below.size (by repeat with_reducible first|exact HB.out|apply below_alloc|apply pw_below_drewN),hbox_⟩);have mc_:=Oa (below_step (by repeat with_reducible first|exact HB.out|apply below_alloc|apply pw_below_drewN) hb_);clear HB;have HB:=mc_;clear mc_;have qi:=nz_;clear nz_ hbox_ hb_ hg_)|((with_reducible refine gate_dst (N:=3) rfl ?_);refine box_event ?hg (N:=3) ?hd (cs:=#[.int .i64 0,.int .i64 0,.slice none 0 0]) (t:=27) ?hr ?_;(case hd=>rfl);(case hg=>rfl);(case hr=>first|(go_simp;done)|(go_simp;rfl));intro g3 hg_ wz_ hbox_ hb_;have yf:=Oa (show g2≠g3 from by rw [hg_];exact Nat.ne_of_lt (blk_lt (show Blk w _ g2 _ from(by repeat with_reducible first|exact qi.out|apply Blk.al|apply Blk.dn)).2));have nz_:=Oa (show Blk w wz_ g3 #[.int .i64 0,.int .i64 0,.slice none 0 0] from⟨by rw [hg_];exact Below.size (by repeat with_reducible first|exact HB.out|apply below_alloc|apply pw_below_drewN),hbox_⟩);have qb:=Oa (Blk.below (by repeat with_reducible first|exact qi.out|apply Blk.al|apply Blk.dn) hb_);have mc_:=Oa (below_step (by repeat with_reducible first|exact HB.out|apply below_alloc|apply pw_below_drewN) hb_);clear HB;have HB:=mc_;clear mc_;clear qi;have qi:=qb;clear qb;have qk:=nz_;clear nz_ hbox_ hb_ hg_)|(go_at_call 62;refine(cur_new (w:=wz_) (Kd.C_below hr0 HB.out) hc0 hl).mono ?_;rintro e wn_ ⟨g,rfl,hq_⟩;have HC:=Oa hq_;have HW:=Oa (Below.size (cur_blw hq_));have qb:=Oa (Blk.below qi.out (cur_blw hq_));have qf:=Oa (Blk.below qk.out (cur_blw hq_));clear qk;have qk:=qf;clear qf;clear qi hq_;have qi:=qb;clear qb)|(go_at_call 72;(with_reducible refine(spec_l14DrawTwo.calls (w0:=wz_) (wc:=wn_) (b:=l0) ?c1).mono ?_);(case c1=>exact(by repeat with_reducible first|exact HC.out|apply CurQ.al|apply CurQ.dn));rintro e wt_ ⟨a,c,a2,c2,v0,v1,xs,ys,rfl,hv0_,hv1_,hlx_,hly_,hc_⟩;have HLX:=Oa hlx_;have HLY:=Oa hly_;have hgn_:=Oa (cur_lt HC.out);have hl2n_:=Oa (blk_lt qi.out.2);have hl3n_:=Oa (blk_lt qk.out.2);have zf:=Oa (Row2.of (Og hv0_ (fun k_ hk_=>hk_):Kd.V (Kd.int .i64) 2 wt_ wz_.heap.size (fun k=>wn_.heap.size≤k) v0 xs));have zg:=Oa (Row2.of (Og hv1_ (fun k_ hk_=>hk_):Kd.V (Kd.int .i64) 2 wt_ wz_.heap.size (fun k=>wn_.heap.size≤k) v1 ys));have hlHB_g2_:=Oa (Nat.lt_of_lt_of_le (blk_lt qi.out.2) (cur_size hc_));have qb:=Oa (Blk.curx (by repeat with_reducible first|exact qi.out|apply Blk.al|apply Blk.dn) (by repeat with_reducible first|exact HC.out|apply CurQ.al|apply CurQ.dn) hc_);have hlHB_g3_:=Oa (Nat.lt_of_lt_of_le (blk_lt qk.out.2) (cur_size hc_));have qf:=Oa (Blk.curx (by repeat with_reducible first|exact qk.out|apply Blk.al|apply Blk.dn) (by repeat with_reducible first|exact HC.out|apply CurQ.al|apply CurQ.dn) hc_);have mc_:=Oa (CurQ.trans (by repeat with_reducible first|exact HC.out|apply CurQ.al|apply CurQ.dn) hc_);clear HC hc_ hv0_ hv1_ hlx_ hly_;have HC:=mc_;clear mc_;clear qi;have qi:=qb;clear qb;clear qk;have qk:=qf;clear qf;obtain⟨yv,yz,e0_⟩:=Kd.V_slice zf.out;subst e0_;obtain⟨yw,za,e1_⟩:=Kd.V_slice zg.out;subst e1_)|((with_reducible refine gate_dst (N:=6) rfl ?_);refine box_event ?hg (N:=6) ?hd (cs:=#[.int .i64 0,.int .i64 0,.slice none 0 0]) (t:=27) ?hr ?_;(case hd=>rfl);(case hg=>rfl);(case hr=>first|(go_simp;done)|(go_simp;rfl));intro g6 hg_ w6_ hbox_ hb_;have zd:=Oa (show wt_.heap.size≤g6 from by rw [hg_];exact Nat.le_refl _);have hsz6_:=Oa (Below.size hb_);have nz_:=Oa (show Blk wn_ w6_ g6 #[.int .i64 0,.int .i64 0,.slice none 0 0] from⟨by rw [hg_];exact cur_size (by repeat with_reducible first|exact HC.out|apply CurQ.al|apply CurQ.dn),hbox_⟩);have qb:=Oa (Blk.below (by repeat with_reducible first|exact qi.out|apply Blk.al|apply Blk.dn) hb_);have qf:=Oa (Blk.below (by repeat with_reducible first|exact qk.out|apply Blk.al|apply Blk.dn) hb_);have qh:=Oa (Row2.below (by repeat with_reducible first|exact zf.out|apply Row2.alloc|apply Row2.drewN) hb_);have ql:=Oa (Row2.below (by repeat with_reducible first|exact zg.out|apply Row2.alloc|apply Row2.drewN) hb_);have mc_:=Oa (CurQ.below (by repeat with_reducible first|exact HC.out|apply CurQ.al|apply CurQ.dn) hb_);clear HC;have HC:=mc_;clear mc_;clear qi;have qi:=qb;clear qb;clear qk;have qk:=qf;clear qf;clear zf;have zf:=qh;clear qh;clear zg;have zg:=ql;clear ql;have qo:=nz_;clear nz_ hbox_ hb_ hg_)|((with_reducible refine gate_dst (N:=7) rfl ?_);refine box_event ?hg (N:=7) ?hd (cs:=#[.int .i64 0,.int .i64 0,.slice none 0 0]) (t:=27) ?hr ?_;(case hd=>rfl);(case hg=>rfl);(case hr=>first|(go_simp;done)|(go_simp;rfl));intro g7 hg_ w7_ hbox_ hb_;have ze:=Oa (show wt_.heap.size≤g7 from by rw [hg_];exact hsz6_.out);have hn67_:=Oa (show g6≠g7 from by rw [hg_];exact Nat.ne_of_lt (blk_lt (show Blk wn_ _ g6 _ from(by repeat with_reducible first|exact qo.out|apply Blk.al|apply Blk.dn)).2));have ym:=Oa (show g2≠g6 from Nat.ne_of_lt (Nat.lt_of_lt_of_le hlHB_g2_.out zd.out));have yn:=Oa (show g2≠g7 from Nat.ne_of_lt (Nat.lt_of_lt_of_le hlHB_g2_.out ze.out));have yo:=Oa (show g3≠g6 from Nat.ne_of_lt (Nat.lt_of_lt_of_le hlHB_g3_.out zd.out));have yp:=Oa (show g3≠g7 from Nat.ne_of_lt (Nat.lt_of_lt_of_le hlHB_g3_.out ze.out));have nz_:=Oa (show Blk wn_ w7_ g7 #[.int .i64 0,.int .i64 0,.slice none 0 0] from⟨by rw [hg_];exact cur_size (by repeat with_reducible first|exact HC.out|apply CurQ.al|apply CurQ.dn),hbox_⟩);have qb:=Oa (Blk.below (by repeat with_reducible first|exact qi.out|apply Blk.al|apply Blk.dn) hb_);have qf:=Oa (Blk.below (by repeat with_reducible first|exact qk.out|apply Blk.al|apply Blk.dn) hb_);have qj:=Oa (Blk.below (by repeat with_reducible first|exact qo.out|apply Blk.al|apply Blk.dn) hb_);have qh:=Oa (Row2.below (by repeat with_reducible first|exact zf.out|apply Row2.alloc|apply Row2.drewN) hb_);have ql:=Oa (Row2.below (by repeat with_reducible first|exact zg.out|apply Row2.alloc|apply Row2.drewN) hb_);have mc_:=Oa (CurQ.below (by repeat with_reducible first|exact HC.out|apply CurQ.al|apply CurQ.dn) hb_);clear HC;have HC:=mc_;clear mc_;clear qi;have qi:=qb;clear qb;clear qk;have qk:=qf;clear qf;clear qo;have qo:=qj;clear qj;clear zf;have zf:=qh;clear qh;clear zg;have zg:=ql;clear ql;have qs:=nz_;obtain⟨wu_,hwu_⟩:∃ x_,x_=w7_:=⟨_,rfl⟩;subst hwu_;have hf0g6_:=Ob qo.out.2 0;have hz0g6_:wu_.cell? ⟨g6,0,none⟩=some (.int .i64 0):=(Oc qo.out.2 0).trans rfl;have hf1g6_:=Ob qo.out.2 1;have hz1g6_:wu_.cell? ⟨g6,1,none⟩=some (.int .i64 0):=(Oc qo.out.2 1).trans rfl;have hf2g6_:=Ob qo.out.2 2;have hz2g6_:wu_.cell? ⟨g6,2,none⟩=some (.slice none 0 0):=(Oc qo.out.2 2).trans rfl;clear nz_ hbox_ hb_ hg_)|((with_reducible refine gate_store (t:=27) (p:=6) rfl ?_);refine store_event (t:=27) (p:=6) (v:=?vo14x_) (w1:=((wu_.setCell ⟨g6,0,none⟩ (.int .i64 a)).setCell ⟨g6,1,none⟩ (.int .i64 c)).setCell ⟨g6,2,none⟩ (.slice yv xs.length yz)) ?hg ?ho ?hn ?hr ?_;(case ho=>rfl);(case hg=>rfl);(case hn=>rfl);(case hr=>first|(go_simp;done)|(go_simp;rfl));intro ws_ hw_;subst hw_;have m0_:=Oa (show Blk wn_ _ g6 #[.int .i64 a,.int .i64 c,.slice yv xs.length yz] from qo.out.set3 (.int .i64 a) (.int .i64 c) (.slice yv xs.length yz));have mc_:=Oa (CurQ.set3 HC.out qo.out HW.out (.int .i64 a) (.int .i64 c) (.slice yv xs.length yz));have qb:=Oa (Blk.far3 qi.out ym.out (.int .i64 a) (.int .i64 c) (.slice yv xs.length yz));have qf:=Oa (Blk.far3 qk.out yo.out (.int .i64 a) (.int .i64 c) (.slice yv xs.length yz));have qj:=Oa (Blk.far3 qs.out hn67_.out.symm (.int .i64 a) (.int .i64 c) (.slice yv xs.length yz));have qh:=Oa (Row2.set3 zf.out (.inr zd.out) (.int .i64 a) (.int .i64 c) (.slice yv xs.length yz));have ql:=Oa (Row2.set3 zg.out (.inr zd.out) (.int .i64 a) (.int .i64 c) (.slice yv xs.length yz));clear qo HC qi qk qs zf zg hz0g6_ hz1g6_ hz2g6_ hf0g6_ hf1g6_ hf2g6_;revert m0_ mc_ qb qf qj qh ql;generalize (((wu_.setCell ⟨g6,0,none⟩ (.int .i64 a)).setCell ⟨g6,1,none⟩ (.int .i64 c)).setCell ⟨g6,2,none⟩ (.slice yv xs.length yz))=wv_;intro qo HC qi qk qs zf zg;have hf0g7_:=Ob qs.out.2 0;have hz0g7_:wv_.cell? ⟨g7,0,none⟩=some (.int .i64 0):=(Oc qs.out.2 0).trans rfl;have hf1g7_:=Ob qs.out.2 1;have hz1g7_:wv_.cell? ⟨g7,1,none⟩=some (.int .i64 0):=(Oc qs.out.2 1).trans rfl;have hf2g7_:=Ob qs.out.2 2;have hz2g7_:wv_.cell? ⟨g7,2,none⟩=some (.slice none 0 0):=(Oc qs.out.2 2).trans rfl)|((with_reducible refine gate_store (t:=27) (p:=7) rfl ?_);refine store_event (t:=27) (p:=7) (v:=?vo15x_) (w1:=((wv_.setCell ⟨g7,0,none⟩ (.int .i64 a2)).setCell ⟨g7,1,none⟩ (.int .i64 c2)).setCell ⟨g7,2,none⟩ (.slice yw ys.length za)) ?hg ?ho ?hn ?hr ?_;(case ho=>rfl);(case hg=>rfl);(case hn=>rfl);(case hr=>first|(go_simp;done)|(go_simp;rfl));intro ws_ hw_;subst hw_;have m0_:=Oa (show Blk wn_ _ g7 #[.int .i64 a2,.int .i64 c2,.slice yw ys.length za] from qs.out.set3 (.int .i64 a2) (.int .i64 c2) (.slice yw ys.length za));have mc_:=Oa (CurQ.set3 HC.out qs.out HW.out (.int .i64 a2) (.int .i64 c2) (.slice yw ys.length za));have qb:=Oa (Blk.far3 qi.out yn.out (.int .i64 a2) (.int .i64 c2) (.slice yw ys.length za));have qf:=Oa (Blk.far3 qk.out yp.out (.int .i64 a2) (.int .i64 c2) (.slice yw ys.length za));have qj:=Oa (Blk.far3 qo.out hn67_.out (.int .i64 a2) (.int .i64 c2) (.slice yw ys.length za));have qh:=Oa (Row2.set3 zf.out (.inr ze.out) (.int .i64 a2) (.int .i64 c2) (.slice yw ys.length za));have ql:=Oa (Row2.set3 zg.out (.inr ze.out) (.int .i64 a2) (.int .i64 c2) (.slice yw ys.length za));clear qs HC qi qk qo zf zg hz0g7_ hz1g7_ hz2g7_ hf0g7_ hf1g7_ hf2g7_;revert m0_ mc_ qb qf qj qh ql;generalize (((wv_.setCell ⟨g7,0,none⟩ (.int .i64 a2)).setCell ⟨g7,1,none⟩ (.int .i64 c2)).setCell ⟨g7,2,none⟩ (.slice yw ys.length za))=wx_;intro qs HC qi qk qo zf zg;have hf0g6_:=Ob qo.out.2 0;have hz0g6_:wx_.cell? ⟨g6,0,none⟩=some (.int .i64 a):=(Oc qo.out.2 0).trans rfl;have hf1g6_:=Ob qo.out.2 1;have hz1g6_:wx_.cell? ⟨g6,1,none⟩=some (.int .i64 c):=(Oc qo.out.2 1).trans rfl;have hf2g6_:=Ob qo.out.2 2;have hz2g6_:wx_.cell? ⟨g6,2,none⟩=some (.slice yv xs.length yz):=(Oc qo.out.2 2).trans rfl;have hf0g7_:=Ob qs.out.2 0;have hz0g7_:wx_.cell? ⟨g7,0,none⟩=some (.int .i64 a2):=(Oc qs.out.2 0).trans rfl;have hf1g7_:=Ob qs.out.2 1;have hz1g7_:wx_.cell? ⟨g7,1,none⟩=some (.int .i64 c2):=(Oc qs.out.2 1).trans rfl;have hf2g7_:=Ob qs.out.2 2;have hz2g7_:wx_.cell? ⟨g7,2,none⟩=some (.slice yw ys.length za):=(Oc qs.out.2 2).trans rfl;have hf0g2_:=Ob qi.out.2 0;have hz0g2_:wx_.cell? ⟨g2,0,none⟩=some (.int .i64 0):=(Oc qi.out.2 0).trans rfl;have hf1g2_:=Ob qi.out.2 1;have hz1g2_:wx_.cell? ⟨g2,1,none⟩=some (.int .i64 0):=(Oc qi.out.2 1).trans rfl;have hf2g2_:=Ob qi.out.2 2;have hz2g2_:wx_.cell? ⟨g2,2,none⟩=some (.slice none 0 0):=(Oc qi.out.2 2).trans rfl;have hf0g3_:=Ob qk.out.2 0;have hz0g3_:wx_.cell? ⟨g3,0,none⟩=some (.int .i64 0):=(Oc qk.out.2 0).trans rfl;have hf1g3_:=Ob qk.out.2 1;have hz1g3_:wx_.cell? ⟨g3,1,none⟩=some (.int .i64 0):=(Oc qk.out.2 1).trans rfl;have hf2g3_:=Ob qk.out.2 2;have hz2g3_:wx_.cell? ⟨g3,2,none⟩=some (.slice none 0 0):=(Oc qk.out.2 2).trans rfl))
 have he26_:=ym.out
 have yj:=ym.out.symm
 have he27_:=yn.out
 have qz:=yn.out.symm
 have he36_:=yo.out
 have hf36_:=yo.out.symm
 have he37_:=yp.out
 have hf37_:=yp.out.symm
 have he23_:=yf.out.symm
 have hf23_:=yf.out
 go_region_held3 (fun w'=>(w'.cell? ⟨g6,0,none⟩=some (.int .i64 a)∧w'.cell? ⟨g6,1,none⟩=some (.int .i64 c)∧w'.cell? ⟨g6,2,none⟩=some (.slice yv xs.length yz))∧(w'.cell? ⟨g7,0,none⟩=some (.int .i64 a2)∧w'.cell? ⟨g7,1,none⟩=some (.int .i64 c2)∧w'.cell? ⟨g7,2,none⟩=some (.slice yw ys.length za))) (go_keep) ((go_at_call 81;(with_reducible refine(spec_l14DrawQ.calls (w0:=wz_) (wc:=wn_) (b:=l0) ?c1).mono ?_);(case c1=>exact(CurQ.drew HC.out));rintro e wq_ ⟨q,rfl,hc_⟩;have qb:=Oa (Blk.curx (Blk.drew_ qi.out) (CurQ.drew HC.out) hc_);have qf:=Oa (Blk.curx (Blk.drew_ qk.out) (CurQ.drew HC.out) hc_);have qj:=Oa (Blk.curx (Blk.drew_ qo.out) (CurQ.drew HC.out) hc_);have qp:=Oa (Blk.curx (Blk.drew_ qs.out) (CurQ.drew HC.out) hc_);have qh:=Oa (Row2.cur (Row2.drew zf.out) hc_ hgn_.out);have ql:=Oa (Row2.cur (Row2.drew zg.out) hc_ hgn_.out);have mc_:=Oa (CurQ.trans (CurQ.drew HC.out) hc_);clear qi qk qo qs zf zg HC hc_;have qi:=qb;have qk:=qf;have qo:=qj;have qs:=qp;have zf:=qh;have zg:=ql;have HC:=mc_;clear qb qf qj qp qh ql mc_;have hf0qg6_:=Ob qo.out.2 0;have hz0qg6_:wq_.cell? ⟨g6,0,none⟩=some (.int .i64 a):=(Oc qo.out.2 0).trans rfl;have hf1qg6_:=Ob qo.out.2 1;have hz1qg6_:wq_.cell? ⟨g6,1,none⟩=some (.int .i64 c):=(Oc qo.out.2 1).trans rfl;have hf2qg6_:=Ob qo.out.2 2;have hz2qg6_:wq_.cell? ⟨g6,2,none⟩=some (.slice yv xs.length yz):=(Oc qo.out.2 2).trans rfl;have hf0qg7_:=Ob qs.out.2 0;have hz0qg7_:wq_.cell? ⟨g7,0,none⟩=some (.int .i64 a2):=(Oc qs.out.2 0).trans rfl;have hf1qg7_:=Ob qs.out.2 1;have hz1qg7_:wq_.cell? ⟨g7,1,none⟩=some (.int .i64 c2):=(Oc qs.out.2 1).trans rfl;have hf2qg7_:=Ob qs.out.2 2;have hz2qg7_:wq_.cell? ⟨g7,2,none⟩=some (.slice yw ys.length za):=(Oc qs.out.2 2).trans rfl;have hf0qg2_:=Ob qi.out.2 0;have hz0qg2_:wq_.cell? ⟨g2,0,none⟩=some (.int .i64 0):=(Oc qi.out.2 0).trans rfl;have hf1qg2_:=Ob qi.out.2 1;have hz1qg2_:wq_.cell? ⟨g2,1,none⟩=some (.int .i64 0):=(Oc qi.out.2 1).trans rfl;have hf2qg2_:=Ob qi.out.2 2;have hz2qg2_:wq_.cell? ⟨g2,2,none⟩=some (.slice none 0 0):=(Oc qi.out.2 2).trans rfl;have hf0qg3_:=Ob qk.out.2 0;have hz0qg3_:wq_.cell? ⟨g3,0,none⟩=some (.int .i64 0):=(Oc qk.out.2 0).trans rfl;have hf1qg3_:=Ob qk.out.2 1;have hz1qg3_:wq_.cell? ⟨g3,1,none⟩=some (.int .i64 0):=(Oc qk.out.2 1).trans rfl;have hf2qg3_:=Ob qk.out.2 2;have hz2qg3_:wq_.cell? ⟨g3,2,none⟩=some (.slice none 0 0):=(Oc qk.out.2 2).trans rfl))
 all_goals have HBW:=Oa (below_step HB.out (cur_blw HC.out))
 all_goals go_wp2
 all_goals (((try simp only [Exit.inBlock,Exit.then]));first|(refine bodyPost_ret (results_cct rfl _ _ g2 g3 #[.int .i64 a,.int .i64 c,.slice yv xs.length yz] #[.int .i64 a2,.int .i64 c2,.slice yw ys.length za] rfl rfl rfl (Blk.far3 (qi.out.set3 (.int .i64 a) (.int .i64 c) (.slice yv xs.length yz)) yf.out (.int .i64 a2) (.int .i64 c2) (.slice yw ys.length za)).2 rfl ((Blk.far3 qk.out yf.out.symm (.int .i64 a) (.int .i64 c) (.slice yv xs.length yz)).set3 (.int .i64 a2) (.int .i64 c2) (.slice yw ys.length za)).2) rfl ?_;exact⟨a,c,a2,c2,_,_,xs,ys,q,rfl,Og (Row2.set3 (Row2.set3 zf.out (.inl hl2n_.out) (.int .i64 a) (.int .i64 c) (.slice yv xs.length yz)) (.inl hl3n_.out) (.int .i64 a2) (.int .i64 c2) (.slice yw ys.length za)) (fun _ _=>trivial),Og (Row2.set3 (Row2.set3 zg.out (.inl hl2n_.out) (.int .i64 a) (.int .i64 c) (.slice yv xs.length yz)) (.inl hl3n_.out) (.int .i64 a2) (.int .i64 c2) (.slice yw ys.length za)) (fun _ _=>trivial),HLX.out,HLY.out,(below_set3 (below_set3 HBW.out qi.out.1 (.int .i64 a) (.int .i64 c) (.slice yv xs.length yz)) qk.out.1 (.int .i64 a2) (.int .i64 c2) (.slice yw ys.length za))⟩)|(refine bodyPost_ret (results_cct rfl _ _ g2 g3 #[.int .i64 a,.int .i64 c,.slice yv xs.length yz] #[.int .i64 a2,.int .i64 c2,.slice yw ys.length za] rfl rfl rfl ((Blk.far3 qi.out yf.out (.int .i64 a2) (.int .i64 c2) (.slice yw ys.length za)).set3 (.int .i64 a) (.int .i64 c) (.slice yv xs.length yz)).2 rfl (Blk.far3 (qk.out.set3 (.int .i64 a2) (.int .i64 c2) (.slice yw ys.length za)) yf.out.symm (.int .i64 a) (.int .i64 c) (.slice yv xs.length yz)).2) rfl ?_;exact⟨a,c,a2,c2,_,_,xs,ys,q,rfl,Og (Row2.set3 (Row2.set3 zf.out (.inl hl3n_.out) (.int .i64 a2) (.int .i64 c2) (.slice yw ys.length za)) (.inl hl2n_.out) (.int .i64 a) (.int .i64 c) (.slice yv xs.length yz)) (fun _ _=>trivial),Og (Row2.set3 (Row2.set3 zg.out (.inl hl3n_.out) (.int .i64 a2) (.int .i64 c2) (.slice yw ys.length za)) (.inl hl2n_.out) (.int .i64 a) (.int .i64 c) (.slice yv xs.length yz)) (fun _ _=>trivial),HLX.out,HLY.out,(below_set3 (below_set3 HBW.out qk.out.1 (.int .i64 a2) (.int .i64 c2) (.slice yw ys.length za)) qi.out.1 (.int .i64 a) (.int .i64 c) (.slice yv xs.length yz))⟩))


end Go.Proofs.Ytbdnpfjjaokdbaa.HFnCoded
