-- Laid by myprint.py, a program of this repo, out of the kit's printer and this repo's own texts (wip/hand).
import Derived.Test.YtelcpfanjjfgdaaHFnPackedx0
namespace Go.Proofs.Ytelcpfanjjfgdaa.HFnPacked
open Go.RowKit Go.Proofs.YtelcpfanjjfgdaaW.PrintWords Go.Proofs.YtelcpfanjjfgdaaW.PrintLast Go.Proofs.YtelcpfanjjfgdaaW.PrintMore
attribute [local go_sem] max2_int min2_int max_two min_two max_three min_three max_four min_four   -- for this text's walks alone
set_option linter.unusedVariables false
set_option linter.unusedSimpArgs false
theorem Ha : type_of% @Aside0.mk := @Aside0.mk
theorem Hb : type_of% @keep_drew := @keep_drew
theorem Hc : type_of% @pw_below_drewN := @pw_below_drewN
theorem Hd : type_of% @KeepBut.set_ := @KeepBut.set_
theorem He : type_of% @Kd.R_drew := @Kd.R_drew
theorem Hf : type_of% @below_alloc := @below_alloc
theorem Hg : type_of% @below_drew1 := @below_drew1
theorem Hh : type_of% @keep_alloc := @keep_alloc
theorem Hi : type_of% @keep_drewN := @keep_drewN
theorem Hj : type_of% @below_set := @below_set
theorem Hk : type_of% @Kd.S_drew := @Kd.S_drew
theorem Hl : type_of% @Kd.R_alloc := @Kd.R_alloc
theorem Hm : type_of% @Kd.R_drewN := @Kd.R_drewN
theorem Hn : type_of% @KeepBut.trans := @KeepBut.trans
theorem Ho : type_of% @Kd.S_alloc := @Kd.S_alloc
theorem Hp : type_of% @Kd.S_drewN := @Kd.S_drewN
theorem Hq : type_of% @Kd.R_mono := @Kd.R_mono

/-- A state of type 102 at block g of W; what its slices lead to came in by w0. -/
def IsS102 (w0 W : World) (g : Nat) (f0 : List Int) (f1 : Int) (f2 : Int) : Prop := ∃ A0 c0, W.heap[g]? = some (.cells #[.slice A0 f0.length c0, .int .i64 f1, .int .i64 f2] 102 (0, 0)) ∧ w0.heap.size ≤ g ∧ Kd.C (Kd.int .u8) w0 A0 f0.length f0
theorem IsS102.grown {w0 W : World} {g : Nat} {f0 : List Int} {f1 : Int} {f2 : Int} {W1 : World} {row : Option Nat} (h : IsS102 w0 W g f0 f1 f2) (hw : W.grownBy W1 row) (hne : some g ≠ row) : IsS102 w0 W1 g f0 f1 f2 := by
 obtain⟨A0,c0,hb,hg,hr0⟩:=h
 exact⟨A0,c0,blk_grown hb hw hne,hg,hr0⟩
theorem IsS102.own_neN {w0 W : World} {g : Nat} {f0 : List Int} {f1 : Int} {f2 : Int} {α : Type} {d : Kd α} {e : Nat} {base : Nat} {ok : Nat → Prop} {v : Value} {xs : List α} (h : IsS102 w0 W g f0 f1 f2) (ho : Kd.N d e W base ok v xs) (ht : e ≠ 102) : some g ≠ v.ownBlock := by
 obtain⟨A0,c0,hb,hg,hr0⟩:=h
 exact Kd.N_ne ho hb ht
theorem IsS102.fresh {w0 W : World} {g : Nat} {f0 : List Int} {f1 : Int} {f2 : Int} (h : IsS102 w0 W g f0 f1 f2) : ∀ k, W.heap.size ≤ k → k ≠ g := by
 obtain⟨A0,c0,hb,hg,hr0⟩:=h
 exact Kd.freshB hb
theorem IsS102.kept {w0 W : World} {g : Nat} {f0 : List Int} {f1 : Int} {f2 : Int} {W1 : World} {S : Nat → Prop} (h : IsS102 w0 W g f0 f1 f2) (hk : Kept W W1 S) (hne : ¬ S g) : IsS102 w0 W1 g f0 f1 f2 := by
 obtain⟨A0,c0,hb,hg,hr0⟩:=h
 exact⟨A0,c0,blk_kept hb hk hne,hg,hr0⟩
theorem IsS102.below {w0 W : World} {g : Nat} {f0 : List Int} {f1 : Int} {f2 : Int} {W1 : World} (h : IsS102 w0 W g f0 f1 f2) (hw : Below W.heap.size W W1) : IsS102 w0 W1 g f0 f1 f2 := h.grown (grown_of_below hw none) (by simp)
theorem IsS102.alloc {w0 W : World} {g : Nat} {f0 : List Int} {f1 : Int} {f2 : Int} (h : IsS102 w0 W g f0 f1 f2) (o : Obj) : IsS102 w0 (W.alloc o) g f0 f1 f2 := h.below (Hf (Below.refl _ _) o)
theorem IsS102.drewN {w0 W : World} {g : Nat} {f0 : List Int} {f1 : Int} {f2 : Int} (h : IsS102 w0 W g f0 f1 f2) (m : Nat) : IsS102 w0 (W.drewN m) g f0 f1 f2 := h
theorem IsS102.drew {w0 W : World} {g : Nat} {f0 : List Int} {f1 : Int} {f2 : Int} (h : IsS102 w0 W g f0 f1 f2) : IsS102 w0 W.drew g f0 f1 f2 := h
theorem IsS102.at_ {w0 W : World} {g : Nat} {f0 : List Int} {f1 : Int} {f2 : Int} {w' : World} {m : Nat} (hq : W.drewN m = w') (h : IsS102 w0 W g f0 f1 f2) : IsS102 w0 w' g f0 f1 f2 := by subst hq; exact IsS102.drewN h m
theorem IsS102.apart {w0 W : World} {g : Nat} {f0 : List Int} {f1 : Int} {f2 : Int} {α : Type} {d : Kd α} {e : Nat} {base : Nat} {ok : Nat → Prop} {v : Value} {xs : List α} (h : IsS102 w0 W g f0 f1 f2) (ho : d.R e W base ok v xs) (ht : ∀ q, q ∈ e :: d.E → q ≠ 102) : d.R e W base (fun k => ok k ∧ k ≠ g) v xs := by
 obtain⟨A0,c0,hb,hg,hr0⟩:=h
 exact Kd.R_types ho hb ht
theorem IsS102.own_ne {w0 W : World} {g : Nat} {f0 : List Int} {f1 : Int} {f2 : Int} {α : Type} {d : Kd α} {e : Nat} {base : Nat} {ok : Nat → Prop} {v : Value} {xs : List α} (h : IsS102 w0 W g f0 f1 f2) (ho : d.R e W base ok v xs) (ht : e ≠ 102) : some g ≠ v.ownBlock := by
 obtain⟨A0,c0,hb,hg,hr0⟩:=h
 exact Kd.R_ne ho hb ht
theorem IsS102.apartQ {w0 W : World} {g : Nat} {f0 : List Int} {f1 : Int} {f2 : Int} {α : Type} {d : Kd α} {e : Nat} {base : Nat} {ok : Nat → Prop} {v : Value} {xs : List α} (h : IsS102 w0 W g f0 f1 f2) (ho : d.Q e W base ok v xs) (ht : ∀ q, q ∈ e :: d.E → q ≠ 102) : d.Q e W base (fun k => ok k ∧ k ≠ g) v xs := by
 obtain⟨A0,c0,hb,hg,hr0⟩:=h
 exact Kd.Q_types ho hb ht
theorem IsS102.own_neQ {w0 W : World} {g : Nat} {f0 : List Int} {f1 : Int} {f2 : Int} {α : Type} {d : Kd α} {e : Nat} {base : Nat} {ok : Nat → Prop} {v : Value} {xs : List α} (h : IsS102 w0 W g f0 f1 f2) (ho : d.Q e W base ok v xs) (ht : e ≠ 102) : some g ≠ v.ownBlock := by
 obtain⟨A0,c0,hb,hg,hr0⟩:=h
 exact Kd.Q_ne ho hb ht
theorem IsS102.apartS {w0 W : World} {g : Nat} {f0 : List Int} {f1 : Int} {f2 : Int} {α : Type} {d : Kd α} {e : Nat} {base : Nat} {ok : Nat → Prop} {v : Value} {xs : List α} (h : IsS102 w0 W g f0 f1 f2) (ho : d.S e W base ok v xs) (ht : ∀ q, q ∈ e :: d.E → q ≠ 102) : d.S e W base (fun k => ok k ∧ k ≠ g) v xs := by
 obtain⟨A0,c0,hb,hg,hr0⟩:=h
 exact Kd.S_types ho hb ht
theorem IsS102.own_neS {w0 W : World} {g : Nat} {f0 : List Int} {f1 : Int} {f2 : Int} {α : Type} {d : Kd α} {e : Nat} {base : Nat} {ok : Nat → Prop} {v : Value} {xs : List α} (h : IsS102 w0 W g f0 f1 f2) (ho : d.S e W base ok v xs) (ht : e ≠ 102) : some g ≠ v.ownBlock := by
 obtain⟨A0,c0,hb,hg,hr0⟩:=h
 exact Kd.S_ne ho hb ht
theorem IsS102.lt {w0 W : World} {g : Nat} {f0 : List Int} {f1 : Int} {f2 : Int} (h : IsS102 w0 W g f0 f1 f2) : g < W.heap.size := by
 obtain⟨A0,c0,hb,hg,hr0⟩:=h
 exact blk_lt hb
theorem IsS102.ge {w0 W : World} {g : Nat} {f0 : List Int} {f1 : Int} {f2 : Int} (h : IsS102 w0 W g f0 f1 f2) : w0.heap.size ≤ g := by
 obtain⟨A0,c0,hb,hg,hr0⟩:=h
 exact hg
theorem IsS102.ne_blk {w0 W : World} {g : Nat} {f0 : List Int} {f1 : Int} {f2 : Int} {a : Nat} {cs : Array Value} {t : TypeId} {fr : Nat × Nat} (h : IsS102 w0 W g f0 f1 f2) (hb2 : W.heap[a]? = some (.cells cs t fr)) (ht : t ≠ 102) : g ≠ a := by
 obtain⟨A0,c0,hb,hg,hr0⟩:=h
 rintro rfl
 rw [hb] at hb2
 injection hb2 with hb2
 injection hb2 with _ ht2
 exact ht ht2.symm
theorem IsS102.far {w0 W : World} {g : Nat} {f0 : List Int} {f1 : Int} {f2 : Int} {p : Addr} (h : IsS102 w0 W g f0 f1 f2) (hne : g ≠ p.block) (u : Value) : IsS102 w0 (W.setCell p u) g f0 f1 f2 := by
 obtain⟨A0,c0,hb,hg,hr0⟩:=h
 exact⟨A0,c0,blk_far hb hne u,hg,hr0⟩
theorem cellS102_0 {W : World} {g : Nat} {A0 : Option Addr} {c0 : Nat} {f0 : List Int} {f1 : Int} {f2 : Int} (h : W.heap[g]? = some (.cells #[.slice A0 f0.length c0, .int .i64 f1, .int .i64 f2] 102 (0, 0))) : W.cell? ⟨g, 0, none⟩ = some (.slice A0 f0.length c0) := (blk_cell h 0).trans rfl
theorem cellS102_1 {W : World} {g : Nat} {A0 : Option Addr} {c0 : Nat} {f0 : List Int} {f1 : Int} {f2 : Int} (h : W.heap[g]? = some (.cells #[.slice A0 f0.length c0, .int .i64 f1, .int .i64 f2] 102 (0, 0))) : W.cell? ⟨g, 1, none⟩ = some (.int .i64 f1) := (blk_cell h 1).trans rfl
theorem IsS102.set_1 {w0 W : World} {g : Nat} {f0 : List Int} {f1 : Int} {f2 : Int} (h : IsS102 w0 W g f0 f1 f2) (x : Int) : IsS102 w0 (W.setCell ⟨g, 1, none⟩ (.int .i64 x)) g f0 x f2 := by
 obtain⟨A0,c0,hb,hg,hr0⟩:=h
 exact⟨A0,c0,by simpa using blk_set hb 1 (.int .i64 x),hg,hr0⟩
theorem cellS102_2 {W : World} {g : Nat} {A0 : Option Addr} {c0 : Nat} {f0 : List Int} {f1 : Int} {f2 : Int} (h : W.heap[g]? = some (.cells #[.slice A0 f0.length c0, .int .i64 f1, .int .i64 f2] 102 (0, 0))) : W.cell? ⟨g, 2, none⟩ = some (.int .i64 f2) := (blk_cell h 2).trans rfl
theorem IsS102.set_2 {w0 W : World} {g : Nat} {f0 : List Int} {f1 : Int} {f2 : Int} (h : IsS102 w0 W g f0 f1 f2) (x : Int) : IsS102 w0 (W.setCell ⟨g, 2, none⟩ (.int .i64 x)) g f0 f1 x := by
 obtain⟨A0,c0,hb,hg,hr0⟩:=h
 exact⟨A0,c0,by simpa using blk_set hb 2 (.int .i64 x),hg,hr0⟩
theorem IsS102.new (w0 W : World) (A0 : Option Addr) (c0 : Nat) (f0 : List Int) (f1 : Int) (f2 : Int) (hB : Below w0.heap.size w0 W) (hr0 : Kd.C (Kd.int .u8) w0 A0 f0.length f0) : IsS102 w0 (W.alloc (.cells #[.slice A0 f0.length c0, .int .i64 f1, .int .i64 f2] 102)) W.heap.size f0 f1 f2 := ⟨A0, c0, by simpa using heap_alloc_new W _, hB.size, hr0⟩

/-! ### spec_l1New: function 64 -/
def spec_l1New.l0 : Nat → List Int → Int → Int → Option (List Int × Int × Int)
 | 0, _, _, _ => none
 | k + 1, x0, x3, x4 => if x4 < (x0.length : Int) then (if 0 ≤ x4 then (spec_l1New.l0 k x0 (Go.bits .and .i64 (wrap64 ((wrap64 ((wrap64 (x3 * 137)) + (wrap64 (rd x0 x4)))) + 11)) 1073741823) (wrap64 (x4 + 1))) else (none)) else (some (x0, 0, x3))
def spec_l1New.f (k : Nat) (l0 : List Int) : Option (List Int × Int × Int) := spec_l1New.l0 k l0 (wrap64 (60293 + (l0.length : Int))) 0
theorem spec_l1New.mono_l : ∀ k, (∀ y0 y1 y2, LeO (spec_l1New.l0 k y0 y1 y2) (spec_l1New.l0 (k + 1) y0 y1 y2))
 | 0 => fun _ _ _ r h => by simp [spec_l1New.l0] at h
 | k + 1 => by
  have ih0:=spec_l1New.mono_l k
  ·intro y0 y1 y2
   unfold spec_l1New.l0
   repeat' first
   | (with_reducible exact ih0 _ _ _)
   | (with_reducible exact LeO.refl _)
   | (with_reducible exact LeO.none _)
   | (with_reducible refine LeO.ite ?_ ?_)
   | (with_reducible refine LeO.bind ?_ (fun _ => ?_))
   | exact ih0 _ _ _
   | exact LeO.none _
   | refine LeO.ite ?_ ?_
   | refine LeO.bind ?_ (fun _ => ?_)
theorem spec_l1New.mono : ∀ a0 k, LeO (spec_l1New.f k a0) (spec_l1New.f (k + 1) a0) := by
 intro a0 k
 have ih0:=spec_l1New.mono_l k
 unfold spec_l1New.f
 repeat' first
   | (with_reducible exact ih0 _ _ _)
   | (with_reducible exact LeO.refl _)
   | (with_reducible exact LeO.none _)
   | (with_reducible refine LeO.ite ?_ ?_)
   | (with_reducible refine LeO.bind ?_ (fun _ => ?_))
   | exact ih0 _ _ _
   | exact LeO.none _
   | refine LeO.ite ?_ ?_
   | refine LeO.bind ?_ (fun _ => ?_)
set_option maxHeartbeats 8000000 in
set_option maxRecDepth 100000 in
theorem spec_l1New.calls (k : Nat) (A0 : Option Addr) (c0 : Nat) (l0 : List Int) (r1 : List Int) (r2 : Int) (r3 : Int) (w0 w : World) (hB : Below w0.heap.size w0 w) (hr0 : Kd.C (Kd.int .u8) w0 A0 l0.length l0) (hc0 : l0.length ≤ c0) (h : spec_l1New.f k l0 = some (r1, r2, r3)) :
  Calls Try.prog 64 #[.slice A0 l0.length c0] w fun e w'=>∃ g_:Nat,e=.returned (.pointer (some ⟨g_,0,none⟩))∧IsS102 w0 w' g_ r1 r2 r3∧Below w0.heap.size w0 w'∧Below w.heap.size w w':=by
 have hu102:=Try.underlying102
 have HR0:=Ha hr0
 have HC0:=Ha hc0
 clear hr0 hc0
 have HBW:=Ha (Below.refl w.heap.size w)
 have HW0:=Ha hB.size
 have HB:=Ha hB
 clear hB
 have H:(spec_l1New.l0 k l0 (wrap64 (60293+(l0.length:Int))) 0)=some (r1,r2,r3):=h
 clear h
 have H':=Ha H
 clear H
 go_enter Try.func64,Try.ntmps64
 go_wp2
 go_loopg [3,4] k (fun kq v3 v4 w'=>∃ (x3_1:Int) (x4_1:Int),v3=.int .i64 x3_1∧v4=.int .i64 x4_1∧Aside0 (spec_l1New.l0 kq l0 x3_1 x4_1=some (r1,r2,r3))∧Aside0 (kq≤k)∧Aside0 (Below w0.heap.size w0 w')∧Aside0 (Below w.heap.size w w'))
 case atStart=>exact⟨(wrap64 (60293+(l0.length:Int))),(0),(by first|rfl|(simp;done)|(simp [*];done)),(by first|rfl|(simp;done)|(simp [*];done)),H',⟨Nat.le_refl _⟩,⟨by repeat(first|(with_reducible first|exact HB.out|apply Hf|apply Hc|apply Hg)|exact HB.out)⟩,⟨by repeat(first|(with_reducible first|exact HBW.out|apply Hf|apply Hc|apply Hg)|exact HBW.out)⟩⟩
 case round=>
  clear H'
  obtain⟨x3_1,x4_1,rfl,rfl,HA,HK1,HB,HBW⟩:=hrel
  cases gk with
  | zero => exact absurd HA.out (by simp [spec_l1New.l0])
  | succ k1 =>
   have H:=HA.out
   clear HA
   simp only [spec_l1New.l0] at H
   by_cases c2:x4_1 < (l0.length:Int)
   ·rw [if_pos c2] at H
    have c2b0:decide (x4_1 < (l0.length:Int))=true:=decide_eq_true c2
    clear c2
    by_cases c3:0≤x4_1
    ·rw [if_pos c3] at H
     have c3b0:decide (0≤x4_1)=true:=decide_eq_true c3
     clear c3
     have H':=Ha H
     clear H
     have p161:0≤(x4_1:Int):=of_decide_eq_true (by first|(with_reducible assumption)|assumption)
     have q161:x4_1 < (l0.length:Int):=of_decide_eq_true (by first|(with_reducible assumption)|assumption)
     obtain⟨ad161,e161,hx161_0⟩:=Kd.at_int HR0.out x4_1 p161 q161
     cases e161
     replace hx161_0:=pw_cell_below HB.out hx161_0
     replace p161:=eq_true p161
     replace q161:=eq_true q161
     go_wp2
     go_roundg k1
     case measure=>have:=HK1.out;omega
     case rel=>exact⟨(Go.bits .and .i64 (wrap64 ((wrap64 ((wrap64 (x3_1*137))+(wrap64 (rd l0 x4_1))))+11)) 1073741823),(wrap64 (x4_1+1)),(by first|rfl|(simp;done)|(simp [*];done)),(by first|rfl|(simp;done)|(simp [*];done)),H',⟨by have:=HK1.out;omega⟩,⟨by repeat(first|(with_reducible first|exact HB.out|apply Hf|apply Hc|apply Hg)|exact HB.out)⟩,⟨by repeat(first|(with_reducible first|exact HBW.out|apply Hf|apply Hc|apply Hg)|exact HBW.out)⟩⟩
    ·rw [if_neg c3] at H
     exact absurd H (by simp)
   ·rw [if_neg c2] at H
    have c2b0:decide (x4_1 < (l0.length:Int))=false:=decide_eq_false c2
    clear c2
    simp only [Option.some.injEq,Prod.mk.injEq] at H
    obtain⟨rfl,rfl,rfl⟩:=H
    go_wp2_with (first|((with_reducible refine gate_dst (N:=27) rfl ?_);refine box_event ?hg (N:=27) ?hd (cs:=#[.slice A0 l0.length c0,.int .i64 0,.int .i64 x3_1]) (t:=102) ?hr ?_;(case hd=>rfl);(case hg=>rfl);(case hr=>first|(go_simp;done)|(go_simp;rfl));intro gb162 hg w4 hbox hb;have n0_:=Ha (below_step HBW.out hb);have n1_:=Ha (below_step (by repeat(first|(with_reducible first|exact HB.out|apply Hf|apply Hc|apply Hg)|exact HB.out)) hb);have n2_:=Ha (hbox);have n3_:=Ha ((by rw [hg];exact(below_size (by repeat(first|(with_reducible first|exact HBW.out|apply Hf|apply Hc|apply Hg)|exact HBW.out))):w.heap.size≤gb162));have n4_:=Ha ((Nat.le_trans HW0.out (by rw [hg];exact(below_size (by repeat(first|(with_reducible first|exact HBW.out|apply Hf|apply Hc|apply Hg)|exact HBW.out))):w.heap.size≤gb162):w0.heap.size≤gb162));clear HBW;clear HB;have HBW:=n0_;have HB:=n1_;have BK162:=n2_;have GW162:=n3_;have GE162:=n4_;clear n0_ n1_ n2_ n3_ n4_;clear hb hbox hg))
    go_ret
    exact⟨_,rfl,(show IsS102 w0 _ gb162 l0 0 x3_1 from⟨_,_,by(with_reducible repeat(first|refine blk_drewN ?_ _|refine blk_drew ?_|refine blk_alloc ?_ _));exact BK162.out,GE162.out,HR0.out⟩),by repeat(first|(with_reducible first|exact HB.out|apply Hf|apply Hc|apply Hg|refine Hj ?_ GE162.out)|exact HB.out),by repeat(first|(with_reducible first|exact HBW.out|apply Hf|apply Hc|apply Hg|refine Hj ?_ GW162.out)|exact HBW.out)⟩

/-! ### spec_l1Byte: function 85 -/
def spec_l1Byte.f (s0_0 : List Int) (s0_1 : Int) (s0_2 : Int) : Option (Int × Int × Int) := if s0_1 < (s0_0.length : Int) then (if 0 ≤ s0_1 then (some (Go.bits .and .i64 (wrap64 ((Go.bits .and .i64 (Go.bits .xor .i64 ((wrap64 ((wrap64 (s0_2 * 6364136223846793005)) + 1442695040888963407)) / 8589934592) ((wrap64 ((wrap64 (s0_2 * 6364136223846793005)) + 1442695040888963407)) / 35184372088832)) 255) + (wrap64 (rd s0_0 s0_1)))) 255, wrap64 (s0_1 + 1), wrap64 ((wrap64 (s0_2 * 6364136223846793005)) + 1442695040888963407))) else (none)) else (some (Go.bits .and .i64 (Go.bits .xor .i64 ((wrap64 ((wrap64 (s0_2 * 6364136223846793005)) + 1442695040888963407)) / 8589934592) ((wrap64 ((wrap64 (s0_2 * 6364136223846793005)) + 1442695040888963407)) / 35184372088832)) 255, s0_1, wrap64 ((wrap64 (s0_2 * 6364136223846793005)) + 1442695040888963407)))
set_option maxHeartbeats 8000000 in
set_option maxRecDepth 100000 in
theorem spec_l1Byte.calls (g : Nat) (s0_0 : List Int) (s0_1 : Int) (s0_2 : Int) (r1 : Int) (r2 : Int) (r3 : Int) (w0 w : World) (hI : IsS102 w0 w g s0_0 s0_1 s0_2) (hB : Below w0.heap.size w0 w) (h : spec_l1Byte.f s0_0 s0_1 s0_2 = some (r1, r2, r3)) :
  Calls Try.prog 85 #[.pointer (some ⟨g,0,none⟩)] w fun e w'=>e=.returned (.int .i64 r1)∧IsS102 w0 w' g s0_0 r2 r3∧Below w0.heap.size w0 w'∧KeepBut w w' g none:=by
 have HI0:=Ha hI
 have HK:=Ha (KeepBut.refl w g none)
 have HL:=Ha hB.size
 clear hI
 have HW0:=Ha hB.size
 have HB:=Ha hB
 clear hB
 have H:(if s0_1 < (s0_0.length:Int) then (if 0≤s0_1 then (some (Go.bits .and .i64 (wrap64 ((Go.bits .and .i64 (Go.bits .xor .i64 ((wrap64 ((wrap64 (s0_2*6364136223846793005))+1442695040888963407)) / 8589934592) ((wrap64 ((wrap64 (s0_2*6364136223846793005))+1442695040888963407)) / 35184372088832)) 255)+(wrap64 (rd s0_0 s0_1)))) 255,wrap64 (s0_1+1),wrap64 ((wrap64 (s0_2*6364136223846793005))+1442695040888963407))) else (none)) else (some (Go.bits .and .i64 (Go.bits .xor .i64 ((wrap64 ((wrap64 (s0_2*6364136223846793005))+1442695040888963407)) / 8589934592) ((wrap64 ((wrap64 (s0_2*6364136223846793005))+1442695040888963407)) / 35184372088832)) 255,s0_1,wrap64 ((wrap64 (s0_2*6364136223846793005))+1442695040888963407))))=some (r1,r2,r3):=h
 clear h
 by_cases c2:s0_1 < (s0_0.length:Int)
 ·rw [if_pos c2] at H
  have c2b0:decide (s0_1 < (s0_0.length:Int))=true:=decide_eq_true c2
  clear c2
  by_cases c3:0≤s0_1
  ·rw [if_pos c3] at H
   have c3b0:decide (0≤s0_1)=true:=decide_eq_true c3
   clear c3
   simp only [Option.some.injEq,Prod.mk.injEq] at H
   obtain⟨rfl,rfl,rfl⟩:=H
   obtain⟨ASz4_0,cSz4_0,HGz4,hgz4,HSz4_0⟩:=HI0.out
   have hcz4_0:=cellS102_0 HGz4
   have hcz4_1:=cellS102_1 HGz4
   have hcz4_2:=cellS102_2 HGz4
   have hfz4_1:=blk_frozen HGz4 1
   have hfz4_2:=blk_frozen HGz4 2
   clear HGz4 hgz4
   have p163:0≤(s0_1:Int):=of_decide_eq_true (by first|(with_reducible assumption)|assumption)
   have q163:s0_1 < (s0_0.length:Int):=of_decide_eq_true (by first|(with_reducible assumption)|assumption)
   obtain⟨ad163,e163,hx163_0⟩:=Kd.at_int HSz4_0 s0_1 p163 q163
   cases e163
   have hn163_0:ad163.block≠g:=Nat.ne_of_lt (Nat.lt_of_lt_of_le (by have:=World.block_lt_of_cell? _ _ hx163_0;first|rwa [add_block] at this|exact this) (IsS102.ge HI0.out))
   replace hx163_0:=pw_cell_below HB.out hx163_0
   replace hx163_0:=(cell_far (p:=⟨g,2,none⟩) (by first|(rw [add_block];exact hn163_0)|(show(Addr.add _ _).block≠_;rw [add_block];exact hn163_0)|exact hn163_0) (.int .i64 (wrap64 ((wrap64 (s0_2*6364136223846793005))+1442695040888963407)))).trans hx163_0
   (try have hy163_0:=fun (n_:Nat)=>(show(((w.drewN n_).setCell ⟨g,2,none⟩ (.int .i64 (wrap64 ((wrap64 (s0_2*6364136223846793005))+1442695040888963407))))).cell? _=some _ from hx163_0))
   clear hn163_0
   replace p163:=eq_true p163
   replace q163:=eq_true q163
   go_enter Try.func85,Try.ntmps85
   go_wp2
   repeat(go_quiet (fail);try go_wp2)
   go_ret
   exact⟨by first|rfl|(simp [errW_none,errW_some] <;> rfl)|(simp [*,errW_none,errW_some] <;> rfl),by repeat(first|(with_reducible first|exact HI0.out|apply IsS102.alloc|apply IsS102.drewN|apply IsS102.drew|apply IsS102.set_1|apply IsS102.set_2)|exact HI0.out),by repeat(first|(with_reducible first|exact HB.out|apply Hf|apply Hc|apply Hg|refine Hj ?_ (IsS102.ge HI0.out))|exact HB.out),by repeat(first|(with_reducible first|exact HK.out|apply Hd|apply Hi|apply Hb|apply Hh)|exact HK.out)⟩
  ·rw [if_neg c3] at H
   exact absurd H (by simp)
 ·rw [if_neg c2] at H
  have c2b0:decide (s0_1 < (s0_0.length:Int))=false:=decide_eq_false c2
  clear c2
  simp only [Option.some.injEq,Prod.mk.injEq] at H
  obtain⟨rfl,rfl,rfl⟩:=H
  obtain⟨ASz5_0,cSz5_0,HGz5,hgz5,HSz5_0⟩:=HI0.out
  have hcz5_0:=cellS102_0 HGz5
  have hcz5_1:=cellS102_1 HGz5
  have hcz5_2:=cellS102_2 HGz5
  have hfz5_1:=blk_frozen HGz5 1
  have hfz5_2:=blk_frozen HGz5 2
  clear HGz5 hgz5
  go_enter Try.func85,Try.ntmps85
  go_wp2
  repeat(go_quiet (fail);try go_wp2)
  go_ret
  exact⟨by first|rfl|(simp [errW_none,errW_some] <;> rfl)|(simp [*,errW_none,errW_some] <;> rfl),by repeat(first|(with_reducible first|exact HI0.out|apply IsS102.alloc|apply IsS102.drewN|apply IsS102.drew|apply IsS102.set_1|apply IsS102.set_2)|exact HI0.out),by repeat(first|(with_reducible first|exact HB.out|apply Hf|apply Hc|apply Hg|refine Hj ?_ (IsS102.ge HI0.out))|exact HB.out),by repeat(first|(with_reducible first|exact HK.out|apply Hd|apply Hi|apply Hb|apply Hh)|exact HK.out)⟩

/-! ### spec_l1Below: function 65 -/
def spec_l1Below.f (s0_0 : List Int) (s0_1 : Int) (s0_2 : Int) (a1 : Int) : Option (Int × Int × Int) := if a1 ≤ 0 then (some (0, s0_1, s0_2)) else (if a1 ≤ 256 then ((spec_l1Byte.f s0_0 s0_1 s0_2).bind fun bt164 => (if a1 = 0 then (none) else (some (Int.tmod bt164.1 a1, bt164.2.1, bt164.2.2)))) else ((spec_l1Byte.f s0_0 s0_1 s0_2).bind fun bt167 => ((spec_l1Byte.f s0_0 bt167.2.1 bt167.2.2).bind fun bt170 => ((spec_l1Byte.f s0_0 bt170.2.1 bt170.2.2).bind fun bt173 => ((spec_l1Byte.f s0_0 bt173.2.1 bt173.2.2).bind fun bt176 => (if a1 = 0 then (none) else (some (Int.tmod (wrap64 ((wrap64 ((wrap64 ((wrap64 (bt167.1 * 16777216)) + (wrap64 (bt170.1 * 65536)))) + (wrap64 (bt173.1 * 256)))) + bt176.1)) a1, bt176.2.1, bt176.2.2))))))))
set_option maxHeartbeats 8000000 in
set_option maxRecDepth 100000 in
theorem spec_l1Below.calls (g : Nat) (s0_0 : List Int) (s0_1 : Int) (s0_2 : Int) (a1 : Int) (r1 : Int) (r2 : Int) (r3 : Int) (w0 w : World) (hI : IsS102 w0 w g s0_0 s0_1 s0_2) (hB : Below w0.heap.size w0 w) (h : spec_l1Below.f s0_0 s0_1 s0_2 a1 = some (r1, r2, r3)) :
  Calls Try.prog 65 #[.pointer (some ⟨g,0,none⟩),.int .i64 a1] w fun e w'=>e=.returned (.int .i64 r1)∧IsS102 w0 w' g s0_0 r2 r3∧Below w0.heap.size w0 w'∧KeepBut w w' g none:=by
 have HI0:=Ha hI
 have HK:=Ha (KeepBut.refl w g none)
 have HL:=Ha hB.size
 clear hI
 have HW0:=Ha hB.size
 have HB:=Ha hB
 clear hB
 have H:(if a1≤0 then (some (0,s0_1,s0_2)) else (if a1≤256 then ((spec_l1Byte.f s0_0 s0_1 s0_2).bind fun bt164=>(if a1=0 then (none) else (some (Int.tmod bt164.1 a1,bt164.2.1,bt164.2.2)))) else ((spec_l1Byte.f s0_0 s0_1 s0_2).bind fun bt167=>((spec_l1Byte.f s0_0 bt167.2.1 bt167.2.2).bind fun bt170=>((spec_l1Byte.f s0_0 bt170.2.1 bt170.2.2).bind fun bt173=>((spec_l1Byte.f s0_0 bt173.2.1 bt173.2.2).bind fun bt176=>(if a1=0 then (none) else (some (Int.tmod (wrap64 ((wrap64 ((wrap64 ((wrap64 (bt167.1*16777216))+(wrap64 (bt170.1*65536))))+(wrap64 (bt173.1*256))))+bt176.1)) a1,bt176.2.1,bt176.2.2)))))))))=some (r1,r2,r3):=h
 clear h
 by_cases c3:a1≤0
 ·rw [if_pos c3] at H
  have c3b0:decide (a1≤0)=true:=decide_eq_true c3
  clear c3
  simp only [Option.some.injEq,Prod.mk.injEq] at H
  obtain⟨rfl,rfl,rfl⟩:=H
  go_enter Try.func65,Try.ntmps65
  go_wp2
  go_ret
  exact⟨by first|rfl|(simp [errW_none,errW_some] <;> rfl)|(simp [*,errW_none,errW_some] <;> rfl),by repeat(first|(with_reducible first|exact HI0.out|apply IsS102.alloc|apply IsS102.drewN|apply IsS102.drew|apply IsS102.set_1|apply IsS102.set_2)|exact HI0.out),by repeat(first|(with_reducible first|exact HB.out|apply Hf|apply Hc|apply Hg|refine Hj ?_ (IsS102.ge HI0.out))|exact HB.out),by repeat(first|(with_reducible first|exact HK.out|apply Hd|apply Hi|apply Hb|apply Hh)|exact HK.out)⟩
 ·rw [if_neg c3] at H
  have c3b0:decide (a1≤0)=false:=decide_eq_false c3
  clear c3
  by_cases c4:a1≤256
  ·rw [if_pos c4] at H
   have c4b0:decide (a1≤256)=true:=decide_eq_true c4
   clear c4
   replace H:=Option.bind_eq_some_iff.mp H
   obtain⟨⟨t164,t165,t166⟩,A50,H⟩:=H
   replace H:(if a1=0 then (none) else (some (Int.tmod t164 a1,t165,t166)))=some (r1,r2,r3):=H
   have A5:=Ha A50
   clear A50
   by_cases c6:a1=0
   ·rw [if_pos c6] at H
    exact absurd H (by simp)
   ·rw [if_neg c6] at H
    have c6b0:(a1 == 0)=false:=beq_eq_false_iff_ne.mpr c6
    have c6b1:(a1 != 0)=true:=bne_iff_ne.mpr c6
    simp only [Option.some.injEq,Prod.mk.injEq] at H
    obtain⟨rfl,rfl,rfl⟩:=H
    go_enter Try.func65,Try.ntmps65
    go_wp2_with (first|((with_reducible refine gate_callee (f:=85) rfl ?_);refine goesL_ (some 14) rfl rfl Try.func85 (by kernel_rfl) rfl #[.pointer (some ⟨g,0,none⟩)] rfl (by(try simp only [List.map_toArray,List.map_cons,List.map_nil]);first|done|rfl|(simp only [List.length_drop,List.length_take];rfl)) ?_;(with_reducible refine(spec_l1Byte.calls g s0_0 s0_1 s0_2 t164 t165 t166 w0 _ ?side1 ?side2 A5.out).mono ?_);(case side1=>repeat(first|(with_reducible first|exact HI0.out|apply IsS102.alloc|apply IsS102.drewN|apply IsS102.drew|apply IsS102.set_1|apply IsS102.set_2)|exact HI0.out));(case side2=>repeat(first|(with_reducible first|exact HB.out|apply Hf|apply Hc|apply Hg|refine Hj ?_ (IsS102.ge HI0.out))|exact HB.out));rintro e w7 ⟨rfl,hi,hb,hk⟩;refine⟨_,rfl,?_⟩;have n0_:=Ha (Hn (by repeat(first|(with_reducible first|exact HK.out|apply Hd|apply Hi|apply Hb|apply Hh)|exact HK.out)) hk (.inl rfl));have n1_:=Ha (hb);have n2_:=Ha (hi);clear HK;clear HB;clear HI0;have HK:=n0_;have HB:=n1_;have HI0:=n2_;clear n0_ n1_ n2_;(try clear hb);(try clear hb2);(try clear hk);(try clear hi)))
    go_ret
    exact⟨by first|rfl|(simp [errW_none,errW_some] <;> rfl)|(simp [*,errW_none,errW_some] <;> rfl),by repeat(first|(with_reducible first|exact HI0.out|apply IsS102.alloc|apply IsS102.drewN|apply IsS102.drew|apply IsS102.set_1|apply IsS102.set_2)|exact HI0.out),by repeat(first|(with_reducible first|exact HB.out|apply Hf|apply Hc|apply Hg|refine Hj ?_ (IsS102.ge HI0.out))|exact HB.out),by repeat(first|(with_reducible first|exact HK.out|apply Hd|apply Hi|apply Hb|apply Hh)|exact HK.out)⟩
  ·rw [if_neg c4] at H
   have c4b0:decide (a1≤256)=false:=decide_eq_false c4
   clear c4
   replace H:=Option.bind_eq_some_iff.mp H
   obtain⟨⟨t167,t168,t169⟩,A80,H⟩:=H
   replace H:((spec_l1Byte.f s0_0 t168 t169).bind fun bt170=>((spec_l1Byte.f s0_0 bt170.2.1 bt170.2.2).bind fun bt173=>((spec_l1Byte.f s0_0 bt173.2.1 bt173.2.2).bind fun bt176=>(if a1=0 then (none) else (some (Int.tmod (wrap64 ((wrap64 ((wrap64 ((wrap64 (t167*16777216))+(wrap64 (bt170.1*65536))))+(wrap64 (bt173.1*256))))+bt176.1)) a1,bt176.2.1,bt176.2.2))))))=some (r1,r2,r3):=H
   have A8:=Ha A80
   clear A80
   replace H:=Option.bind_eq_some_iff.mp H
   obtain⟨⟨t170,t171,t172⟩,A90,H⟩:=H
   replace H:((spec_l1Byte.f s0_0 t171 t172).bind fun bt173=>((spec_l1Byte.f s0_0 bt173.2.1 bt173.2.2).bind fun bt176=>(if a1=0 then (none) else (some (Int.tmod (wrap64 ((wrap64 ((wrap64 ((wrap64 (t167*16777216))+(wrap64 (t170*65536))))+(wrap64 (bt173.1*256))))+bt176.1)) a1,bt176.2.1,bt176.2.2)))))=some (r1,r2,r3):=H
   have A9:=Ha A90
   clear A90
   replace H:=Option.bind_eq_some_iff.mp H
   obtain⟨⟨t173,t174,t175⟩,A100,H⟩:=H
   replace H:((spec_l1Byte.f s0_0 t174 t175).bind fun bt176=>(if a1=0 then (none) else (some (Int.tmod (wrap64 ((wrap64 ((wrap64 ((wrap64 (t167*16777216))+(wrap64 (t170*65536))))+(wrap64 (t173*256))))+bt176.1)) a1,bt176.2.1,bt176.2.2))))=some (r1,r2,r3):=H
   have A10:=Ha A100
   clear A100
   replace H:=Option.bind_eq_some_iff.mp H
   obtain⟨⟨t176,t177,t178⟩,A110,H⟩:=H
   replace H:(if a1=0 then (none) else (some (Int.tmod (wrap64 ((wrap64 ((wrap64 ((wrap64 (t167*16777216))+(wrap64 (t170*65536))))+(wrap64 (t173*256))))+t176)) a1,t177,t178)))=some (r1,r2,r3):=H
   have A11:=Ha A110
   clear A110
   by_cases c12:a1=0
   ·rw [if_pos c12] at H
    exact absurd H (by simp)
   ·rw [if_neg c12] at H
    have c12b0:(a1 == 0)=false:=beq_eq_false_iff_ne.mpr c12
    have c12b1:(a1 != 0)=true:=bne_iff_ne.mpr c12
    simp only [Option.some.injEq,Prod.mk.injEq] at H
    obtain⟨rfl,rfl,rfl⟩:=H
    go_enter Try.func65,Try.ntmps65
    go_wp2_with (first|((with_reducible refine gate_callee (f:=85) rfl ?_);refine goesL_ (some 18) rfl rfl Try.func85 (by kernel_rfl) rfl #[.pointer (some ⟨g,0,none⟩)] rfl (by(try simp only [List.map_toArray,List.map_cons,List.map_nil]);first|done|rfl|(simp only [List.length_drop,List.length_take];rfl)) ?_;(with_reducible refine(spec_l1Byte.calls g s0_0 s0_1 s0_2 t167 t168 t169 w0 _ ?side1 ?side2 A8.out).mono ?_);(case side1=>repeat(first|(with_reducible first|exact HI0.out|apply IsS102.alloc|apply IsS102.drewN|apply IsS102.drew|apply IsS102.set_1|apply IsS102.set_2)|exact HI0.out));(case side2=>repeat(first|(with_reducible first|exact HB.out|apply Hf|apply Hc|apply Hg|refine Hj ?_ (IsS102.ge HI0.out))|exact HB.out));rintro e w13 ⟨rfl,hi,hb,hk⟩;refine⟨_,rfl,?_⟩;have n0_:=Ha (Hn (by repeat(first|(with_reducible first|exact HK.out|apply Hd|apply Hi|apply Hb|apply Hh)|exact HK.out)) hk (.inl rfl));have n1_:=Ha (hb);have n2_:=Ha (hi);clear HK;clear HB;clear HI0;have HK:=n0_;have HB:=n1_;have HI0:=n2_;clear n0_ n1_ n2_;(try clear hb);(try clear hb2);(try clear hk);(try clear hi))|((with_reducible refine gate_callee (f:=85) rfl ?_);refine goesL_ (some 20) rfl rfl Try.func85 (by kernel_rfl) rfl #[.pointer (some ⟨g,0,none⟩)] rfl (by(try simp only [List.map_toArray,List.map_cons,List.map_nil]);first|done|rfl|(simp only [List.length_drop,List.length_take];rfl)) ?_;(with_reducible refine(spec_l1Byte.calls g s0_0 t168 t169 t170 t171 t172 w0 _ ?side1 ?side2 A9.out).mono ?_);(case side1=>repeat(first|(with_reducible first|exact HI0.out|apply IsS102.alloc|apply IsS102.drewN|apply IsS102.drew|apply IsS102.set_1|apply IsS102.set_2)|exact HI0.out));(case side2=>repeat(first|(with_reducible first|exact HB.out|apply Hf|apply Hc|apply Hg|refine Hj ?_ (IsS102.ge HI0.out))|exact HB.out));rintro e w14 ⟨rfl,hi,hb,hk⟩;refine⟨_,rfl,?_⟩;have n0_:=Ha (Hn (by repeat(first|(with_reducible first|exact HK.out|apply Hd|apply Hi|apply Hb|apply Hh)|exact HK.out)) hk (.inl rfl));have n1_:=Ha (hb);have n2_:=Ha (hi);clear HK;clear HB;clear HI0;have HK:=n0_;have HB:=n1_;have HI0:=n2_;clear n0_ n1_ n2_;(try clear hb);(try clear hb2);(try clear hk);(try clear hi))|((with_reducible refine gate_callee (f:=85) rfl ?_);refine goesL_ (some 22) rfl rfl Try.func85 (by kernel_rfl) rfl #[.pointer (some ⟨g,0,none⟩)] rfl (by(try simp only [List.map_toArray,List.map_cons,List.map_nil]);first|done|rfl|(simp only [List.length_drop,List.length_take];rfl)) ?_;(with_reducible refine(spec_l1Byte.calls g s0_0 t171 t172 t173 t174 t175 w0 _ ?side1 ?side2 A10.out).mono ?_);(case side1=>repeat(first|(with_reducible first|exact HI0.out|apply IsS102.alloc|apply IsS102.drewN|apply IsS102.drew|apply IsS102.set_1|apply IsS102.set_2)|exact HI0.out));(case side2=>repeat(first|(with_reducible first|exact HB.out|apply Hf|apply Hc|apply Hg|refine Hj ?_ (IsS102.ge HI0.out))|exact HB.out));rintro e w15 ⟨rfl,hi,hb,hk⟩;refine⟨_,rfl,?_⟩;have n0_:=Ha (Hn (by repeat(first|(with_reducible first|exact HK.out|apply Hd|apply Hi|apply Hb|apply Hh)|exact HK.out)) hk (.inl rfl));have n1_:=Ha (hb);have n2_:=Ha (hi);clear HK;clear HB;clear HI0;have HK:=n0_;have HB:=n1_;have HI0:=n2_;clear n0_ n1_ n2_;(try clear hb);(try clear hb2);(try clear hk);(try clear hi))|((with_reducible refine gate_callee (f:=85) rfl ?_);refine goesL_ (some 24) rfl rfl Try.func85 (by kernel_rfl) rfl #[.pointer (some ⟨g,0,none⟩)] rfl (by(try simp only [List.map_toArray,List.map_cons,List.map_nil]);first|done|rfl|(simp only [List.length_drop,List.length_take];rfl)) ?_;(with_reducible refine(spec_l1Byte.calls g s0_0 t174 t175 t176 t177 t178 w0 _ ?side1 ?side2 A11.out).mono ?_);(case side1=>repeat(first|(with_reducible first|exact HI0.out|apply IsS102.alloc|apply IsS102.drewN|apply IsS102.drew|apply IsS102.set_1|apply IsS102.set_2)|exact HI0.out));(case side2=>repeat(first|(with_reducible first|exact HB.out|apply Hf|apply Hc|apply Hg|refine Hj ?_ (IsS102.ge HI0.out))|exact HB.out));rintro e w16 ⟨rfl,hi,hb,hk⟩;refine⟨_,rfl,?_⟩;have n0_:=Ha (Hn (by repeat(first|(with_reducible first|exact HK.out|apply Hd|apply Hi|apply Hb|apply Hh)|exact HK.out)) hk (.inl rfl));have n1_:=Ha (hb);have n2_:=Ha (hi);clear HK;clear HB;clear HI0;have HK:=n0_;have HB:=n1_;have HI0:=n2_;clear n0_ n1_ n2_;(try clear hb);(try clear hb2);(try clear hk);(try clear hi)))
    go_ret
    exact⟨by first|rfl|(simp [errW_none,errW_some] <;> rfl)|(simp [*,errW_none,errW_some] <;> rfl),by repeat(first|(with_reducible first|exact HI0.out|apply IsS102.alloc|apply IsS102.drewN|apply IsS102.drew|apply IsS102.set_1|apply IsS102.set_2)|exact HI0.out),by repeat(first|(with_reducible first|exact HB.out|apply Hf|apply Hc|apply Hg|refine Hj ?_ (IsS102.ge HI0.out))|exact HB.out),by repeat(first|(with_reducible first|exact HK.out|apply Hd|apply Hi|apply Hb|apply Hh)|exact HK.out)⟩

/-! ### spec_l1Once: function 68 -/
def spec_l1Once.f (s0_0 : List Int) (s0_1 : Int) (s0_2 : Int) (a1 : Int) : Option (Bool × Int × Int) := (spec_l1Below.f s0_0 s0_1 s0_2 a1).bind fun bt179 => (some ((bt179.1 == 0), bt179.2.1, bt179.2.2))
set_option maxHeartbeats 8000000 in
set_option maxRecDepth 100000 in
theorem spec_l1Once.calls (g : Nat) (s0_0 : List Int) (s0_1 : Int) (s0_2 : Int) (a1 : Int) (r1 : Bool) (r2 : Int) (r3 : Int) (w0 w : World) (hI : IsS102 w0 w g s0_0 s0_1 s0_2) (hB : Below w0.heap.size w0 w) (h : spec_l1Once.f s0_0 s0_1 s0_2 a1 = some (r1, r2, r3)) :
  Calls Try.prog 68 #[.pointer (some ⟨g,0,none⟩),.int .i64 a1] w fun e w'=>e=.returned (.bool r1)∧IsS102 w0 w' g s0_0 r2 r3∧Below w0.heap.size w0 w'∧KeepBut w w' g none:=by
 have HI0:=Ha hI
 have HK:=Ha (KeepBut.refl w g none)
 have HL:=Ha hB.size
 clear hI
 have HW0:=Ha hB.size
 have HB:=Ha hB
 clear hB
 have H:((spec_l1Below.f s0_0 s0_1 s0_2 a1).bind fun bt179=>(some ((bt179.1 == 0),bt179.2.1,bt179.2.2)))=some (r1,r2,r3):=h
 clear h
 replace H:=Option.bind_eq_some_iff.mp H
 obtain⟨⟨t179,t180,t181⟩,A30,H⟩:=H
 replace H:(some ((t179 == 0),t180,t181))=some (r1,r2,r3):=H
 have A3:=Ha A30
 clear A30
 simp only [Option.some.injEq,Prod.mk.injEq] at H
 obtain⟨rfl,rfl,rfl⟩:=H
 go_enter Try.func68,Try.ntmps68
 go_wp2_with (first|((with_reducible refine gate_callee (f:=65) rfl ?_);refine goesL_ (some 7) rfl rfl Try.func65 (by kernel_rfl) rfl #[.pointer (some ⟨g,0,none⟩),.int .i64 a1] rfl (by(try simp only [List.map_toArray,List.map_cons,List.map_nil]);first|done|rfl|(simp only [List.length_drop,List.length_take];rfl)) ?_;(with_reducible refine(spec_l1Below.calls g s0_0 s0_1 s0_2 a1 t179 t180 t181 w0 _ ?side1 ?side2 A3.out).mono ?_);(case side1=>repeat(first|(with_reducible first|exact HI0.out|apply IsS102.alloc|apply IsS102.drewN|apply IsS102.drew|apply IsS102.set_1|apply IsS102.set_2)|exact HI0.out));(case side2=>repeat(first|(with_reducible first|exact HB.out|apply Hf|apply Hc|apply Hg|refine Hj ?_ (IsS102.ge HI0.out))|exact HB.out));rintro e w4 ⟨rfl,hi,hb,hk⟩;refine⟨_,rfl,?_⟩;have n0_:=Ha (Hn (by repeat(first|(with_reducible first|exact HK.out|apply Hd|apply Hi|apply Hb|apply Hh)|exact HK.out)) hk (.inl rfl));have n1_:=Ha (hb);have n2_:=Ha (hi);clear HK;clear HB;clear HI0;have HK:=n0_;have HB:=n1_;have HI0:=n2_;clear n0_ n1_ n2_;(try clear hb);(try clear hb2);(try clear hk);(try clear hi)))
 go_ret
 exact⟨by first|rfl|(simp [errW_none,errW_some] <;> rfl)|(simp [*,errW_none,errW_some] <;> rfl),by repeat(first|(with_reducible first|exact HI0.out|apply IsS102.alloc|apply IsS102.drewN|apply IsS102.drew|apply IsS102.set_1|apply IsS102.set_2)|exact HI0.out),by repeat(first|(with_reducible first|exact HB.out|apply Hf|apply Hc|apply Hg|refine Hj ?_ (IsS102.ge HI0.out))|exact HB.out),by repeat(first|(with_reducible first|exact HK.out|apply Hd|apply Hi|apply Hb|apply Hh)|exact HK.out)⟩

/-! ### spec_l15DrawBody: function 70 -/
def spec_l15DrawBody.l0 : Nat → List Int → Int → List Int → Int → Int → Option (List Int × Int × Int)
 | 0, _, _, _, _, _ => none
 | k + 1, x3, x4, x1000, x1001, x1002 => if x4 > 0 then ((spec_l1Byte.f x1000 x1001 x1002).bind fun bt188 => (if x3.length < 140737488355328 then (spec_l15DrawBody.l0 k (x3 ++ [(bt188.1) % 256]) (wrap64 (x4 - 1)) x1000 bt188.2.1 bt188.2.2) else (none))) else ((spec_l1Once.f x1000 x1001 x1002 90).bind fun bt194 => (if bt194.1 = true then ((spec_l1Below.f x1000 bt194.2.1 bt194.2.2 2).bind fun bt197 => (if 0 ≤ (wrap64 (40000 + bt197.1)) then (if (wrap64 (40000 + bt197.1) : Int).toNat ≤ 281474976710656 then (some ((List.replicate (wrap64 (40000 + bt197.1) : Int).toNat 0), bt197.2.1, bt197.2.2)) else (none)) else (none))) else (some (x3, bt194.2.1, bt194.2.2))))
def spec_l15DrawBody.f (k : Nat) (s0_0 : List Int) (s0_1 : Int) (s0_2 : Int) : Option (List Int × Int × Int) := (spec_l1Below.f s0_0 s0_1 s0_2 10).bind fun bt185 => (spec_l15DrawBody.l0 k (([] : List Int)) bt185.1 s0_0 bt185.2.1 bt185.2.2)
theorem spec_l15DrawBody.mono_l : ∀ k, (∀ y0 y1 y2 y3 y4, LeO (spec_l15DrawBody.l0 k y0 y1 y2 y3 y4) (spec_l15DrawBody.l0 (k + 1) y0 y1 y2 y3 y4))
 | 0 => fun _ _ _ _ _ r h => by simp [spec_l15DrawBody.l0] at h
 | k + 1 => by
  have ih0:=spec_l15DrawBody.mono_l k
  ·intro y0 y1 y2 y3 y4
   unfold spec_l15DrawBody.l0
   repeat' first
   | (with_reducible exact ih0 _ _ _ _ _)
   | (with_reducible exact LeO.refl _)
   | (with_reducible exact LeO.none _)
   | (with_reducible refine LeO.ite ?_ ?_)
   | (with_reducible refine LeO.bind ?_ (fun _ => ?_))
   | exact ih0 _ _ _ _ _
   | exact LeO.none _
   | refine LeO.ite ?_ ?_
   | refine LeO.bind ?_ (fun _ => ?_)
theorem spec_l15DrawBody.mono : ∀ a0 a1 a2 k, LeO (spec_l15DrawBody.f k a0 a1 a2) (spec_l15DrawBody.f (k + 1) a0 a1 a2) := by
 intro a0 a1 a2 k
 have ih0:=spec_l15DrawBody.mono_l k
 unfold spec_l15DrawBody.f
 repeat' first
   | (with_reducible exact ih0 _ _ _ _ _)
   | (with_reducible exact LeO.refl _)
   | (with_reducible exact LeO.none _)
   | (with_reducible refine LeO.ite ?_ ?_)
   | (with_reducible refine LeO.bind ?_ (fun _ => ?_))
   | exact ih0 _ _ _ _ _
   | exact LeO.none _
   | refine LeO.ite ?_ ?_
   | refine LeO.bind ?_ (fun _ => ?_)
set_option maxHeartbeats 8000000 in
set_option maxRecDepth 100000 in
theorem spec_l15DrawBody.calls (k : Nat) (g : Nat) (s0_0 : List Int) (s0_1 : Int) (s0_2 : Int) (r1 : List Int) (r2 : Int) (r3 : Int) (w0 w : World) (hI : IsS102 w0 w g s0_0 s0_1 s0_2) (hB : Below w0.heap.size w0 w) (h : spec_l15DrawBody.f k s0_0 s0_1 s0_2 = some (r1, r2, r3)) :
  Calls Try.prog 70 #[.pointer (some ⟨g,0,none⟩)] w fun e w'=>∃ v0_:Value,e=.returned (v0_)∧Kd.R (Kd.int .u8) 5 w' w.heap.size (fun _=>True) v0_ r1∧IsS102 w0 w' g s0_0 r2 r3∧Below w0.heap.size w0 w'∧KeepBut w w' g none:=by
 have HI0:=Ha hI
 have HK:=Ha (KeepBut.refl w g none)
 have HL:=Ha hB.size
 clear hI
 have HW0:=Ha hB.size
 have HB:=Ha hB
 clear hB
 have H:((spec_l1Below.f s0_0 s0_1 s0_2 10).bind fun bt185=>(spec_l15DrawBody.l0 k (([]:List Int)) bt185.1 s0_0 bt185.2.1 bt185.2.2))=some (r1,r2,r3):=h
 clear h
 obtain⟨y182,hy182⟩:∃ y_:List Int,y_=(([]:List Int)):=⟨_,rfl⟩
 replace H:((spec_l1Below.f s0_0 s0_1 s0_2 10).bind fun bt185=>(spec_l15DrawBody.l0 k y182 bt185.1 s0_0 bt185.2.1 bt185.2.2))=some (r1,r2,r3):=by first|(rw [hy182];with_reducible exact H)|(have H2_:=(Option.bind_some _ _).symm.trans H;rw [hy182];with_reducible exact H2_)|(have H2_:=(Option.bind_some _ _).symm.trans H;with_reducible exact H2_)|with_reducible exact H|(rw [hy182];exact H)|exact H
 have Ny182:=Ha hy182
 clear hy182
 replace H:=Option.bind_eq_some_iff.mp H
 obtain⟨⟨t185,t186,t187⟩,A20,H⟩:=H
 replace H:(spec_l15DrawBody.l0 k y182 t185 s0_0 t186 t187)=some (r1,r2,r3):=H
 have A2:=Ha A20
 clear A20
 have H':=Ha H
 clear H
 go_enter Try.func70,Try.ntmps70
 go_wp2_with (first|((with_reducible refine gate_dst (N:=5) rfl ?_);refine Kd.R_lit (Kd.int .u8) _ 5 ?hg (N:=5) ?hd (xs:=([]:List Int)) (inner:=[]) (ok:=fun _=>True) (okp:=fun _=>True) ?hr ?hp (fun _ hk=>hk) trivial (Below.refl _ _) (Nat.le_refl _) (by simp) ?_;(case hd=>rfl);(case hg=>rfl);(case hr=>first|(go_simp;done)|(go_simp;rfl));(case hp=>exact(Reps.none _ _));intro v183 w3 ho4 hb hg_ hnew_;clear hg_ hnew_;(first|rw [← Ny182.out] at ho4|(simp only [Int.reduceToNat] at ho4;rw [← Ny182.out] at ho4));have n0_:=Ha (Kd.R_lower ho4 (keep_size (w:=w) (g:=g) (row:=none) (by repeat(first|(with_reducible first|exact HK.out|apply Hd|apply Hi|apply Hb|apply Hh)|exact HK.out))));have n1_:=Ha (IsS102.below (by repeat(first|(with_reducible first|exact HI0.out|apply IsS102.alloc|apply IsS102.drewN|apply IsS102.drew|apply IsS102.set_1|apply IsS102.set_2)|exact HI0.out)) hb);have n2_:=Ha (Hn (by repeat(first|(with_reducible first|exact HK.out|apply Hd|apply Hi|apply Hb|apply Hh)|exact HK.out)) (KeepBut.of_below hb g none) (.inl rfl));have n3_:=Ha (below_step (by repeat(first|(with_reducible first|exact HB.out|apply Hf|apply Hc|apply Hg|refine Hj ?_ (IsS102.ge HI0.out))|exact HB.out)) hb);clear HI0;clear HK;clear HB;have HO184:=n0_;have HI0:=n1_;have HK:=n2_;have HB:=n3_;clear n0_ n1_ n2_ n3_;clear hb ho4)|((with_reducible refine gate_callee (f:=65) rfl ?_);refine goesL_ (some 7) rfl rfl Try.func65 (by kernel_rfl) rfl #[.pointer (some ⟨g,0,none⟩),.int .i64 10] rfl (by(try simp only [List.map_toArray,List.map_cons,List.map_nil]);first|done|rfl|(simp only [List.length_drop,List.length_take];rfl)) ?_;(with_reducible refine(spec_l1Below.calls g s0_0 s0_1 s0_2 10 t185 t186 t187 w0 _ ?side1 ?side2 A2.out).mono ?_);(case side1=>repeat(first|(with_reducible first|exact HI0.out|apply IsS102.alloc|apply IsS102.drewN|apply IsS102.drew|apply IsS102.set_1|apply IsS102.set_2)|exact HI0.out));(case side2=>repeat(first|(with_reducible first|exact HB.out|apply Hf|apply Hc|apply Hg|refine Hj ?_ (IsS102.ge HI0.out))|exact HB.out));rintro e w5 ⟨rfl,hi,hb,hk⟩;refine⟨_,rfl,?_⟩;have n0_:=Ha (Hq (Kd.R_keep (IsS102.apart (show IsS102 w0 _ g s0_0 s0_1 s0_2 from by repeat(first|(with_reducible first|exact HI0.out|apply IsS102.alloc|apply IsS102.drewN|apply IsS102.drew|apply IsS102.set_1|apply IsS102.set_2)|exact HI0.out)) (by(with_reducible repeat(first|apply Hl|apply Hm|apply He));exact HO184.out) (by decide)) hk (fun _ h=>h.2)) (fun _ h=>h.1));have n1_:=Ha (Hn (by repeat(first|(with_reducible first|exact HK.out|apply Hd|apply Hi|apply Hb|apply Hh)|exact HK.out)) hk (.inl rfl));have n2_:=Ha (hb);have n3_:=Ha (hi);clear HO184;clear HK;clear HB;clear HI0;have HO184:=n0_;have HK:=n1_;have HB:=n2_;have HI0:=n3_;clear n0_ n1_ n2_ n3_;(try clear hb);(try clear hb2);(try clear hk);(try clear hi)))
 go_loopg [3,4] k (fun kq v3 v4 w'=>∃ (x3_1:List Int) (x4_1:Int) (x1001_1:Int) (x1002_1:Int),v4=.int .i64 x4_1∧Aside0 (spec_l15DrawBody.l0 kq x3_1 x4_1 s0_0 x1001_1 x1002_1=some (r1,r2,r3))∧Aside0 (kq≤k)∧Aside0 (Kd.R (Kd.int .u8) 5 w' w.heap.size (fun _=>True) v3 x3_1)∧Aside0 (IsS102 w0 w' g s0_0 x1001_1 x1002_1)∧Aside0 (KeepBut w w' g none)∧Aside0 (Below w0.heap.size w0 w'))
 case atStart=>exact⟨(y182),(t185),(t186),(t187),(by first|rfl|(simp;done)|(simp [*];done)),H',⟨Nat.le_refl _⟩,⟨by(with_reducible repeat(first|apply Hl|apply Hm|apply He));exact HO184.out⟩,⟨by repeat(first|(with_reducible first|exact HI0.out|apply IsS102.alloc|apply IsS102.drewN|apply IsS102.drew|apply IsS102.set_1|apply IsS102.set_2)|exact HI0.out)⟩,⟨by repeat(first|(with_reducible first|exact HK.out|apply Hd|apply Hi|apply Hb|apply Hh)|exact HK.out)⟩,⟨by repeat(first|(with_reducible first|exact HB.out|apply Hf|apply Hc|apply Hg|refine Hj ?_ (IsS102.ge HI0.out))|exact HB.out)⟩⟩
 case round=>
  clear H'
  try clear p2
  obtain⟨x3_1,x4_1,x1001_1,x1002_1,rfl,HA,HK1,HO_3,HI0,HK,HB⟩:=hrel
  cases gk with
  | zero => exact absurd HA.out (by simp [spec_l15DrawBody.l0])
  | succ k1 =>
   have H:=HA.out
   clear HA
   simp only [spec_l15DrawBody.l0] at H
   by_cases c6:x4_1 > 0
   ·rw [if_pos c6] at H
    have c6b0:decide (0 < x4_1)=true:=decide_eq_true c6
    clear c6
    replace H:=Option.bind_eq_some_iff.mp H
    obtain⟨⟨t188,t189,t190⟩,A70,H⟩:=H
    replace H:(if x3_1.length < 140737488355328 then (spec_l15DrawBody.l0 k1 (x3_1 ++ [(t188) % 256]) (wrap64 (x4_1 - 1)) s0_0 t189 t190) else (none))=some (r1,r2,r3):=H
    have A7:=Ha A70
    clear A70
    by_cases c8:x3_1.length < 140737488355328
    ·rw [if_pos c8] at H
     have LMc8:=Ha c8
     clear c8
     obtain⟨y191,hy191⟩:∃ y_:List Int,y_=(x3_1 ++ [(t188) % 256]):=⟨_,rfl⟩
     replace H:(spec_l15DrawBody.l0 k1 y191 (wrap64 (x4_1 - 1)) s0_0 t189 t190)=some (r1,r2,r3):=by first|(rw [hy191];with_reducible exact H)|(have H2_:=(Option.bind_some _ _).symm.trans H;rw [hy191];with_reducible exact H2_)|(have H2_:=(Option.bind_some _ _).symm.trans H;with_reducible exact H2_)|with_reducible exact H|(rw [hy191];exact H)|exact H
     have Ny191:=Ha hy191
     clear hy191
     have H':=Ha H
     clear H
     go_wp2_with (first|((with_reducible refine gate_callee (f:=85) rfl ?_);refine goesL_ (some 14) rfl rfl Try.func85 (by kernel_rfl) rfl #[.pointer (some ⟨g,0,none⟩)] rfl (by(try simp only [List.map_toArray,List.map_cons,List.map_nil]);first|done|rfl|(simp only [List.length_drop,List.length_take];rfl)) ?_;(with_reducible refine(spec_l1Byte.calls g s0_0 x1001_1 x1002_1 t188 t189 t190 w0 _ ?side1 ?side2 A7.out).mono ?_);(case side1=>repeat(first|(with_reducible first|exact HI0.out|apply IsS102.alloc|apply IsS102.drewN|apply IsS102.drew|apply IsS102.set_1|apply IsS102.set_2)|exact HI0.out));(case side2=>repeat(first|(with_reducible first|exact HB.out|apply Hf|apply Hc|apply Hg|refine Hj ?_ (IsS102.ge HI0.out))|exact HB.out));rintro e w9 ⟨rfl,hi,hb,hk⟩;refine⟨_,rfl,?_⟩;have n0_:=Ha (Hq (Kd.R_keep (IsS102.apart (show IsS102 w0 _ g s0_0 x1001_1 x1002_1 from by repeat(first|(with_reducible first|exact HI0.out|apply IsS102.alloc|apply IsS102.drewN|apply IsS102.drew|apply IsS102.set_1|apply IsS102.set_2)|exact HI0.out)) (by(with_reducible repeat(first|apply Hl|apply Hm|apply He));exact HO_3.out) (by decide)) hk (fun _ h=>h.2)) (fun _ h=>h.1));have n1_:=Ha (Hn (by repeat(first|(with_reducible first|exact HK.out|apply Hd|apply Hi|apply Hb|apply Hh)|exact HK.out)) hk (.inl rfl));have n2_:=Ha (hb);have n3_:=Ha (hi);clear HO_3;clear HK;clear HB;clear HI0;have HO_3:=n0_;have HK:=n1_;have HB:=n2_;have HI0:=n3_;clear n0_ n1_ n2_ n3_;(try clear hb);(try clear hb2);(try clear hk);(try clear hi))|((with_reducible refine gate_builtin (b:=.append) (xs:=#[.tmp 12,.tmp 16]) rfl ?_);at_builtin;refine Kd.R_append (Kd.int .u8) w.heap.size rfl (.tmp 12) (.tmp 16) 22 5 (.int .u8 0) 1 rfl Try.underlying22 info5 rfl (by decide) (by omega) u3 x3_1 ((t188) % 256) [.int .u8 ((t188) % 256)] (fun _=>True) (fun _=>False) rfl rfl ?aP (fun _ hk=>hk.elim) ?aF ?aO (Below.refl _ _) ?aS ?aL ?_;(case aP=>exact rfl);(case aF=>exact(fun _ _=>trivial));(case aO=>exact(by(with_reducible repeat(first|apply Hl|apply Hm|apply He));exact HO_3.out));(case aS=>exact(keep_size (w:=w) (g:=g) (row:=none) (by repeat(first|(with_reducible first|exact HK.out|apply Hd|apply Hi|apply Hb|apply Hh)|exact HK.out))));(case aL=>have:=LMc8.out;omega);intro v192 w10 ho hb hg hat;rw [← Ny191.out] at ho;have n0_:=Ha (IsS102.grown (by repeat(first|(with_reducible first|exact HI0.out|apply IsS102.alloc|apply IsS102.drewN|apply IsS102.drew|apply IsS102.set_1|apply IsS102.set_2)|exact HI0.out)) hg (IsS102.own_ne HI0.out HO_3.out (by decide)));have n1_:=Ha (below_weaken (by repeat(first|(with_reducible first|exact HB.out|apply Hf|apply Hc|apply Hg|refine Hj ?_ (IsS102.ge HI0.out))|exact HB.out)) HL.out hb);have n2_:=Ha (Hn (by repeat(first|(with_reducible first|exact HK.out|apply Hd|apply Hi|apply Hb|apply Hh)|exact HK.out)) (KeepBut.of_grown hg g) (Kd.R_base2 HO_3.out));have n3_:=Ha (ho);clear HI0;clear HB;clear HK;clear HO_3;have HI0:=n0_;have HB:=n1_;have HK:=n2_;have HO193:=n3_;clear n0_ n1_ n2_ n3_;clear ho hb hg hat))
     go_roundg k1
     case measure=>have:=HK1.out;omega
     case rel=>exact⟨(y191),(wrap64 (x4_1 - 1)),(t189),(t190),(by first|rfl|(simp;done)|(simp [*];done)),H',⟨by have:=HK1.out;omega⟩,⟨by(with_reducible repeat(first|apply Hl|apply Hm|apply He));exact HO193.out⟩,⟨by repeat(first|(with_reducible first|exact HI0.out|apply IsS102.alloc|apply IsS102.drewN|apply IsS102.drew|apply IsS102.set_1|apply IsS102.set_2)|exact HI0.out)⟩,⟨by repeat(first|(with_reducible first|exact HK.out|apply Hd|apply Hi|apply Hb|apply Hh)|exact HK.out)⟩,⟨by repeat(first|(with_reducible first|exact HB.out|apply Hf|apply Hc|apply Hg|refine Hj ?_ (IsS102.ge HI0.out))|exact HB.out)⟩⟩
    ·rw [if_neg c8] at H
     exact absurd H (by simp)
   ·rw [if_neg c6] at H
    have c6b0:decide (0 < x4_1)=false:=decide_eq_false c6
    clear c6
    replace H:=Option.bind_eq_some_iff.mp H
    obtain⟨⟨t194,t195,t196⟩,A110,H⟩:=H
    replace H:(if t194=true then ((spec_l1Below.f s0_0 t195 t196 2).bind fun bt197=>(if 0≤(wrap64 (40000+bt197.1)) then (if (wrap64 (40000+bt197.1):Int).toNat≤281474976710656 then (some ((List.replicate (wrap64 (40000+bt197.1):Int).toNat 0),bt197.2.1,bt197.2.2)) else (none)) else (none))) else (some (x3_1,t195,t196)))=some (r1,r2,r3):=H
    have A11:=Ha A110
    clear A110
    by_cases c12:t194=true
    ·subst c12
     have H1:((spec_l1Below.f s0_0 t195 t196 2).bind fun bt197=>(if 0≤(wrap64 (40000+bt197.1)) then (if (wrap64 (40000+bt197.1):Int).toNat≤281474976710656 then (some ((List.replicate (wrap64 (40000+bt197.1):Int).toNat 0),bt197.2.1,bt197.2.2)) else (none)) else (none)))=some (r1,r2,r3):=by rw [if_pos rfl] at H;exact H
     clear H
     have H:=H1
     clear H1
     replace H:=Option.bind_eq_some_iff.mp H
     obtain⟨⟨t197,t198,t199⟩,A130,H⟩:=H
     replace H:(if 0≤(wrap64 (40000+t197)) then (if (wrap64 (40000+t197):Int).toNat≤281474976710656 then (some ((List.replicate (wrap64 (40000+t197):Int).toNat 0),t198,t199)) else (none)) else (none))=some (r1,r2,r3):=H
     have A13:=Ha A130
     clear A130
     obtain⟨ji14,hji14⟩:∃ j_:Int,(wrap64 (40000+t197))=j_:=⟨_,rfl⟩
     replace H:(if 0≤(ji14) then (if (ji14:Int).toNat≤281474976710656 then (some ((List.replicate (ji14:Int).toNat 0),t198,t199)) else (none)) else (none))=some (r1,r2,r3):=by first|(rw [hji14] at H;exact H)|(simp only [hji14] at H ⊢;exact H)
     (try rw [hji14] at A11)
     (try rw [hji14] at A13)
     have hji14w:(IntKind.i64.wrap (40000+t197))=ji14:=(i64_w _).trans hji14
     by_cases c15:0≤(ji14)
     ·rw [if_pos c15] at H
      have c15b0:=eq_true c15
      have c15b1:decide (0≤(ji14))=true:=decide_eq_true c15
      clear c15
      by_cases c16:(ji14:Int).toNat≤281474976710656
      ·rw [if_pos c16] at H
       have c16b0:=eq_true c16
       have c16b1:decide ((ji14:Int).toNat≤281474976710656)=true:=decide_eq_true c16
       clear c16
       obtain⟨y200,hy200⟩:∃ y_:List Int,y_=(List.replicate (ji14:Int).toNat 0):=⟨_,rfl⟩
       replace H:(some (y200,t198,t199))=some (r1,r2,r3):=by first|(rw [hy200];with_reducible exact H)|(have H2_:=(Option.bind_some _ _).symm.trans H;rw [hy200];with_reducible exact H2_)|(have H2_:=(Option.bind_some _ _).symm.trans H;with_reducible exact H2_)|with_reducible exact H|(rw [hy200];exact H)|exact H
       have Ny200:=Ha hy200
       clear hy200
       simp only [Option.some.injEq,Prod.mk.injEq] at H
       obtain⟨rfl,rfl,rfl⟩:=H
       go_wp2_with (first|((with_reducible refine gate_callee (f:=68) rfl ?_);refine goesL_ (some 19) rfl rfl Try.func68 (by kernel_rfl) rfl #[.pointer (some ⟨g,0,none⟩),.int .i64 90] rfl (by(try simp only [List.map_toArray,List.map_cons,List.map_nil]);first|done|rfl|(simp only [List.length_drop,List.length_take];rfl)) ?_;(with_reducible refine(spec_l1Once.calls g s0_0 x1001_1 x1002_1 90 true t195 t196 w0 _ ?side1 ?side2 A11.out).mono ?_);(case side1=>repeat(first|(with_reducible first|exact HI0.out|apply IsS102.alloc|apply IsS102.drewN|apply IsS102.drew|apply IsS102.set_1|apply IsS102.set_2)|exact HI0.out));(case side2=>repeat(first|(with_reducible first|exact HB.out|apply Hf|apply Hc|apply Hg|refine Hj ?_ (IsS102.ge HI0.out))|exact HB.out));rintro e w17 ⟨rfl,hi,hb,hk⟩;refine⟨_,rfl,?_⟩;have n0_:=Ha (Hq (Kd.R_keep (IsS102.apart (show IsS102 w0 _ g s0_0 x1001_1 x1002_1 from by repeat(first|(with_reducible first|exact HI0.out|apply IsS102.alloc|apply IsS102.drewN|apply IsS102.drew|apply IsS102.set_1|apply IsS102.set_2)|exact HI0.out)) (by(with_reducible repeat(first|apply Hl|apply Hm|apply He));exact HO_3.out) (by decide)) hk (fun _ h=>h.2)) (fun _ h=>h.1));have n1_:=Ha (Hn (by repeat(first|(with_reducible first|exact HK.out|apply Hd|apply Hi|apply Hb|apply Hh)|exact HK.out)) hk (.inl rfl));have n2_:=Ha (hb);have n3_:=Ha (hi);clear HO_3;clear HK;clear HB;clear HI0;have HO_3:=n0_;have HK:=n1_;have HB:=n2_;have HI0:=n3_;clear n0_ n1_ n2_ n3_;(try clear hb);(try clear hb2);(try clear hk);(try clear hi))|((with_reducible refine gate_callee (f:=65) rfl ?_);refine goesL_ (some 21) rfl rfl Try.func65 (by kernel_rfl) rfl #[.pointer (some ⟨g,0,none⟩),.int .i64 2] rfl (by(try simp only [List.map_toArray,List.map_cons,List.map_nil]);first|done|rfl|(simp only [List.length_drop,List.length_take];rfl)) ?_;(with_reducible refine(spec_l1Below.calls g s0_0 t195 t196 2 t197 t198 t199 w0 _ ?side1 ?side2 A13.out).mono ?_);(case side1=>repeat(first|(with_reducible first|exact HI0.out|apply IsS102.alloc|apply IsS102.drewN|apply IsS102.drew|apply IsS102.set_1|apply IsS102.set_2)|exact HI0.out));(case side2=>repeat(first|(with_reducible first|exact HB.out|apply Hf|apply Hc|apply Hg|refine Hj ?_ (IsS102.ge HI0.out))|exact HB.out));rintro e w18 ⟨rfl,hi,hb,hk⟩;refine⟨_,rfl,?_⟩;have n0_:=Ha (Hq (Kd.R_keep (IsS102.apart (show IsS102 w0 _ g s0_0 t195 t196 from by repeat(first|(with_reducible first|exact HI0.out|apply IsS102.alloc|apply IsS102.drewN|apply IsS102.drew|apply IsS102.set_1|apply IsS102.set_2)|exact HI0.out)) (by(with_reducible repeat(first|apply Hl|apply Hm|apply He));exact HO_3.out) (by decide)) hk (fun _ h=>h.2)) (fun _ h=>h.1));have n1_:=Ha (Hn (by repeat(first|(with_reducible first|exact HK.out|apply Hd|apply Hi|apply Hb|apply Hh)|exact HK.out)) hk (.inl rfl));have n2_:=Ha (hb);have n3_:=Ha (hi);clear HO_3;clear HK;clear HB;clear HI0;have HO_3:=n0_;have HK:=n1_;have HB:=n2_;have HI0:=n3_;clear n0_ n1_ n2_ n3_;(try clear hb);(try clear hb2);(try clear hk);(try clear hi))|((with_reducible refine gate_dst (N:=23) rfl ?_);refine Kd.R_make (Kd.int .u8) _ 5 rfl (N:=23) rfl 22 _ _ rfl ji14 rfl rfl Try.underlying22 (.int .u8 0) 1 info5 rfl (by decide) (by omega) 0 (ok:=fun _=>True) (okp:=fun _=>True) rfl (fun _ hk=>hk) trivial (of_decide_eq_true (by first|(with_reducible assumption)|assumption)) (Nat.le_trans (Nat.mul_le_mul_right _ (of_decide_eq_true (by first|(with_reducible assumption)|assumption):ji14.toNat≤281474976710656)) (by omega)) (Below.refl _ _) (Nat.le_refl _) ?_;intro v201 w19 ho20 hb hg_ hnew_;clear hg_ hnew_;(first|rw [← Ny200.out] at ho20|(simp only [Int.reduceToNat] at ho20;rw [← Ny200.out] at ho20));have n0_:=Ha (Kd.R_elder' (by(with_reducible repeat(first|apply Hl|apply Hm|apply He));exact HO_3.out) (Kd.R_base ho20) hb);have n1_:=Ha (Kd.R_lower (Kd.R_new' ho20 (Kd.R_lt (by(with_reducible repeat(first|apply Hl|apply Hm|apply He));exact HO_3.out))) (keep_size (w:=w) (g:=g) (row:=none) (by repeat(first|(with_reducible first|exact HK.out|apply Hd|apply Hi|apply Hb|apply Hh)|exact HK.out))));have n2_:=Ha (IsS102.below (by repeat(first|(with_reducible first|exact HI0.out|apply IsS102.alloc|apply IsS102.drewN|apply IsS102.drew|apply IsS102.set_1|apply IsS102.set_2)|exact HI0.out)) hb);have n3_:=Ha (Hn (by repeat(first|(with_reducible first|exact HK.out|apply Hd|apply Hi|apply Hb|apply Hh)|exact HK.out)) (KeepBut.of_below hb g none) (.inl rfl));have n4_:=Ha (below_step (by repeat(first|(with_reducible first|exact HB.out|apply Hf|apply Hc|apply Hg|refine Hj ?_ (IsS102.ge HI0.out))|exact HB.out)) hb);clear HO_3;clear HI0;clear HK;clear HB;have HO_3:=n0_;have HO202:=n1_;have HI0:=n2_;have HK:=n3_;have HB:=n4_;clear n0_ n1_ n2_ n3_ n4_;clear hb ho20))
       go_ret
       exact⟨_,by first|rfl|(simp [errW_none,errW_some] <;> rfl)|(simp only [← hji14];first|rfl|(simp [errW_none,errW_some] <;> rfl))|(simp [*,errW_none,errW_some] <;> rfl),by(with_reducible repeat(first|apply Hl|apply Hm|apply He));exact Hq HO202.out (fun _ hk=>trivial),by repeat(first|(with_reducible first|exact HI0.out|apply IsS102.alloc|apply IsS102.drewN|apply IsS102.drew|apply IsS102.set_1|apply IsS102.set_2)|exact HI0.out),by repeat(first|(with_reducible first|exact HB.out|apply Hf|apply Hc|apply Hg|refine Hj ?_ (IsS102.ge HI0.out))|exact HB.out),by repeat(first|(with_reducible first|exact HK.out|apply Hd|apply Hi|apply Hb|apply Hh)|exact HK.out)⟩
      ·rw [if_neg c16] at H
       exact absurd H (by simp)
     ·rw [if_neg c15] at H
      exact absurd H (by simp)
    ·replace c12:=Bool.eq_false_iff.mpr c12
     subst c12
     have H1:(some (x3_1,t195,t196))=some (r1,r2,r3):=by rw [if_neg (show ¬ (false=true) by decide)] at H;exact H
     clear H
     have H:=H1
     clear H1
     simp only [Option.some.injEq,Prod.mk.injEq] at H
     obtain⟨rfl,rfl,rfl⟩:=H
     go_wp2_with (first|((with_reducible refine gate_callee (f:=68) rfl ?_);refine goesL_ (some 19) rfl rfl Try.func68 (by kernel_rfl) rfl #[.pointer (some ⟨g,0,none⟩),.int .i64 90] rfl (by(try simp only [List.map_toArray,List.map_cons,List.map_nil]);first|done|rfl|(simp only [List.length_drop,List.length_take];rfl)) ?_;(with_reducible refine(spec_l1Once.calls g s0_0 x1001_1 x1002_1 90 false t195 t196 w0 _ ?side1 ?side2 A11.out).mono ?_);(case side1=>repeat(first|(with_reducible first|exact HI0.out|apply IsS102.alloc|apply IsS102.drewN|apply IsS102.drew|apply IsS102.set_1|apply IsS102.set_2)|exact HI0.out));(case side2=>repeat(first|(with_reducible first|exact HB.out|apply Hf|apply Hc|apply Hg|refine Hj ?_ (IsS102.ge HI0.out))|exact HB.out));rintro e w21 ⟨rfl,hi,hb,hk⟩;refine⟨_,rfl,?_⟩;have n0_:=Ha (Hq (Kd.R_keep (IsS102.apart (show IsS102 w0 _ g s0_0 x1001_1 x1002_1 from by repeat(first|(with_reducible first|exact HI0.out|apply IsS102.alloc|apply IsS102.drewN|apply IsS102.drew|apply IsS102.set_1|apply IsS102.set_2)|exact HI0.out)) (by(with_reducible repeat(first|apply Hl|apply Hm|apply He));exact HO_3.out) (by decide)) hk (fun _ h=>h.2)) (fun _ h=>h.1));have n1_:=Ha (Hn (by repeat(first|(with_reducible first|exact HK.out|apply Hd|apply Hi|apply Hb|apply Hh)|exact HK.out)) hk (.inl rfl));have n2_:=Ha (hb);have n3_:=Ha (hi);clear HO_3;clear HK;clear HB;clear HI0;have HO_3:=n0_;have HK:=n1_;have HB:=n2_;have HI0:=n3_;clear n0_ n1_ n2_ n3_;(try clear hb);(try clear hb2);(try clear hk);(try clear hi)))
     go_ret
     exact⟨_,by first|rfl|(simp [errW_none,errW_some] <;> rfl)|(simp [*,errW_none,errW_some] <;> rfl),by(with_reducible repeat(first|apply Hl|apply Hm|apply He));exact HO_3.out,by repeat(first|(with_reducible first|exact HI0.out|apply IsS102.alloc|apply IsS102.drewN|apply IsS102.drew|apply IsS102.set_1|apply IsS102.set_2)|exact HI0.out),by repeat(first|(with_reducible first|exact HB.out|apply Hf|apply Hc|apply Hg|refine Hj ?_ (IsS102.ge HI0.out))|exact HB.out),by repeat(first|(with_reducible first|exact HK.out|apply Hd|apply Hi|apply Hb|apply Hh)|exact HK.out)⟩

/-! ### spec_l15DrawNames: function 78 -/
mutual
def spec_l15DrawNames.l0 : Nat → List ByteArray → List (List Int) → Int → List Int → Int → Int → Option (List ByteArray × (List (List Int)) × Int × Int)
 | 0, _, _, _, _, _, _ => none
 | k + 1, x4, x5, x6, x1000, x1001, x1002 => if x6 > 0 then ((some (([(⟨#[114, 101, 101, 108]⟩ : ByteArray), (⟨#[97]⟩ : ByteArray), (⟨#[98, 95, 49]⟩ : ByteArray), (⟨#[77, 73, 88, 46, 119, 97, 118]⟩ : ByteArray), (⟨#[114, 101, 101, 108, 49]⟩ : ByteArray), (⟨#[90]⟩ : ByteArray), (⟨#[115, 117, 98, 46, 116, 120, 116]⟩ : ByteArray), (⟨#[48]⟩ : ByteArray)] : List ByteArray) : List ByteArray)).bind fun y212 => ((spec_l1Below.f x1000 x1001 x1002 8).bind fun bt215 => (if 0 ≤ bt215.1 then (if bt215.1 < (y212.length : Int) then (spec_l15DrawNames.l1 k x4 x5 x6 (rdOf ByteArray.empty y212 bt215.1) false 0 x1000 bt215.2.1 bt215.2.2) else (none)) else (none)))) else (some (x4, x5, x1001, x1002))
def spec_l15DrawNames.l1 : Nat → List ByteArray → List (List Int) → Int → ByteArray → Bool → Int → List Int → Int → Int → Option (List ByteArray × (List (List Int)) × Int × Int)
 | 0, _, _, _, _, _, _, _, _, _ => none
 | k + 1, x4, x5, x6, x7, x8, x9, x1000, x1001, x1002 => if x9 < (x4.length : Int) then (if x8 = true then (spec_l15DrawNames.l1 k x4 x5 x6 x7 true (wrap64 (x9 + 1)) x1000 x1001 x1002) else (if 0 ≤ x9 then (spec_l15DrawNames.l1 k x4 x5 x6 x7 ((rdOf ByteArray.empty x4 x9).toList == x7.toList) (wrap64 (x9 + 1)) x1000 x1001 x1002) else (none))) else (if x8 = true then ((spec_l1Once.f x1000 x1001 x1002 20).bind fun bt220 => (if bt220.1 = true then (if x4.length < 8796093022208 then ((spec_l15DrawBody.f k x1000 bt220.2.1 bt220.2.2).bind fun bt226 => (if x5.length < 5864062014805 then (spec_l15DrawNames.l0 k (x4 ++ [x7]) (x5 ++ [bt226.1]) (wrap64 (x6 - 1)) x1000 bt226.2.1 bt226.2.2) else (none))) else (none)) else (spec_l15DrawNames.l0 k x4 x5 (wrap64 (x6 - 1)) x1000 bt220.2.1 bt220.2.2))) else (if x4.length < 8796093022208 then ((spec_l15DrawBody.f k x1000 x1001 x1002).bind fun bt237 => (if x5.length < 5864062014805 then (spec_l15DrawNames.l0 k (x4 ++ [x7]) (x5 ++ [bt237.1]) (wrap64 (x6 - 1)) x1000 bt237.2.1 bt237.2.2) else (none))) else (none)))
end
def spec_l15DrawNames.f (k : Nat) (s0_0 : List Int) (s0_1 : Int) (s0_2 : Int) : Option (List ByteArray × (List (List Int)) × Int × Int) := (spec_l1Below.f s0_0 s0_1 s0_2 6).bind fun bt209 => (spec_l15DrawNames.l0 k (([] : List ByteArray)) (([] : List (List Int))) bt209.1 s0_0 bt209.2.1 bt209.2.2)
theorem spec_l15DrawNames.mono_l : ∀ k, (∀ y0 y1 y2 y3 y4 y5, LeO (spec_l15DrawNames.l0 k y0 y1 y2 y3 y4 y5) (spec_l15DrawNames.l0 (k + 1) y0 y1 y2 y3 y4 y5)) ∧ (∀ y0 y1 y2 y3 y4 y5 y6 y7 y8, LeO (spec_l15DrawNames.l1 k y0 y1 y2 y3 y4 y5 y6 y7 y8) (spec_l15DrawNames.l1 (k + 1) y0 y1 y2 y3 y4 y5 y6 y7 y8))
 | 0 => ⟨fun _ _ _ _ _ _ r h => by simp [spec_l15DrawNames.l0] at h, fun _ _ _ _ _ _ _ _ _ r h => by simp [spec_l15DrawNames.l1] at h⟩
 | k + 1 => by
  obtain⟨ih0,ih1⟩:=spec_l15DrawNames.mono_l k
  refine⟨?_,?_⟩
  ·intro y0 y1 y2 y3 y4 y5
   unfold spec_l15DrawNames.l0
   repeat' first
   | (with_reducible exact ih0 _ _ _ _ _ _)
   | (with_reducible exact ih1 _ _ _ _ _ _ _ _ _)
   | (with_reducible exact spec_l15DrawBody.mono _ _ _ _)
   | (with_reducible exact LeO.refl _)
   | (with_reducible exact LeO.none _)
   | (with_reducible refine LeO.ite ?_ ?_)
   | (with_reducible refine LeO.bind ?_ (fun _ => ?_))
   | exact ih0 _ _ _ _ _ _
   | exact ih1 _ _ _ _ _ _ _ _ _
   | exact spec_l15DrawBody.mono _ _ _ _
   | exact LeO.none _
   | refine LeO.ite ?_ ?_
   | refine LeO.bind ?_ (fun _ => ?_)
  ·intro y0 y1 y2 y3 y4 y5 y6 y7 y8
   unfold spec_l15DrawNames.l1
   repeat' first
   | (with_reducible exact ih0 _ _ _ _ _ _)
   | (with_reducible exact ih1 _ _ _ _ _ _ _ _ _)
   | (with_reducible exact spec_l15DrawBody.mono _ _ _ _)
   | (with_reducible exact LeO.refl _)
   | (with_reducible exact LeO.none _)
   | (with_reducible refine LeO.ite ?_ ?_)
   | (with_reducible refine LeO.bind ?_ (fun _ => ?_))
   | exact ih0 _ _ _ _ _ _
   | exact ih1 _ _ _ _ _ _ _ _ _
   | exact spec_l15DrawBody.mono _ _ _ _
   | exact LeO.none _
   | refine LeO.ite ?_ ?_
   | refine LeO.bind ?_ (fun _ => ?_)
theorem spec_l15DrawNames.mono : ∀ a0 a1 a2 k, LeO (spec_l15DrawNames.f k a0 a1 a2) (spec_l15DrawNames.f (k + 1) a0 a1 a2) := by
 intro a0 a1 a2 k
 obtain⟨ih0,ih1⟩:=spec_l15DrawNames.mono_l k
 unfold spec_l15DrawNames.f
 repeat' first
   | (with_reducible exact ih0 _ _ _ _ _ _)
   | (with_reducible exact ih1 _ _ _ _ _ _ _ _ _)
   | (with_reducible exact spec_l15DrawBody.mono _ _ _ _)
   | (with_reducible exact LeO.refl _)
   | (with_reducible exact LeO.none _)
   | (with_reducible refine LeO.ite ?_ ?_)
   | (with_reducible refine LeO.bind ?_ (fun _ => ?_))
   | exact ih0 _ _ _ _ _ _
   | exact ih1 _ _ _ _ _ _ _ _ _
   | exact spec_l15DrawBody.mono _ _ _ _
   | exact LeO.none _
   | refine LeO.ite ?_ ?_
   | refine LeO.bind ?_ (fun _ => ?_)
set_option maxHeartbeats 8000000 in
set_option maxRecDepth 100000 in
theorem spec_l15DrawNames.calls (k : Nat) (g : Nat) (s0_0 : List Int) (s0_1 : Int) (s0_2 : Int) (r1 : List ByteArray) (r2 : List (List Int)) (r3 : Int) (r4 : Int) (w0 w : World) (hI : IsS102 w0 w g s0_0 s0_1 s0_2) (hB : Below w0.heap.size w0 w) (h : spec_l15DrawNames.f k s0_0 s0_1 s0_2 = some (r1, r2, r3, r4)) :
  Calls Try.prog 78 #[.pointer (some ⟨g,0,none⟩)] w fun e w'=>∃ v0_ v1_:Value,e=.returned (.tuple #[v0_,v1_])∧Kd.R Kd.string 9 w' w.heap.size (fun _=>True) v0_ r1∧Kd.S (Kd.slice 5 (Kd.int .u8)) 22 w' w.heap.size (fun _=>True) v1_ r2∧IsS102 w0 w' g s0_0 r3 r4∧Below w0.heap.size w0 w'∧KeepBut w w' g none:=by
 have HI0:=Ha hI
 have HK:=Ha (KeepBut.refl w g none)
 have HL:=Ha hB.size
 clear hI
 have HW0:=Ha hB.size
 have HB:=Ha hB
 clear hB
 have H:((spec_l1Below.f s0_0 s0_1 s0_2 6).bind fun bt209=>(spec_l15DrawNames.l0 k (([]:List ByteArray)) (([]:List (List Int))) bt209.1 s0_0 bt209.2.1 bt209.2.2))=some (r1,r2,r3,r4):=h
 clear h
 obtain⟨y203,hy203⟩:∃ y_:List ByteArray,y_=(([]:List ByteArray)):=⟨_,rfl⟩
 replace H:((spec_l1Below.f s0_0 s0_1 s0_2 6).bind fun bt209=>(spec_l15DrawNames.l0 k y203 (([]:List (List Int))) bt209.1 s0_0 bt209.2.1 bt209.2.2))=some (r1,r2,r3,r4):=by first|(rw [hy203];with_reducible exact H)|(have H2_:=(Option.bind_some _ _).symm.trans H;rw [hy203];with_reducible exact H2_)|(have H2_:=(Option.bind_some _ _).symm.trans H;with_reducible exact H2_)|with_reducible exact H|(rw [hy203];exact H)|exact H
 have Ny203:=Ha hy203
 clear hy203
 obtain⟨y206,hy206⟩:∃ y_:List (List Int),y_=(([]:List (List Int))):=⟨_,rfl⟩
 replace H:((spec_l1Below.f s0_0 s0_1 s0_2 6).bind fun bt209=>(spec_l15DrawNames.l0 k y203 y206 bt209.1 s0_0 bt209.2.1 bt209.2.2))=some (r1,r2,r3,r4):=by first|(rw [hy206];with_reducible exact H)|(have H2_:=(Option.bind_some _ _).symm.trans H;rw [hy206];with_reducible exact H2_)|(have H2_:=(Option.bind_some _ _).symm.trans H;with_reducible exact H2_)|with_reducible exact H|(rw [hy206];exact H)|exact H
 have Ny206:=Ha hy206
 clear hy206
 replace H:=Option.bind_eq_some_iff.mp H
 obtain⟨⟨t209,t210,t211⟩,A20,H⟩:=H
 replace H:(spec_l15DrawNames.l0 k y203 y206 t209 s0_0 t210 t211)=some (r1,r2,r3,r4):=H
 have A2:=Ha A20
 clear A20
 have H':=Ha H
 clear H
 go_enter Try.func78,Try.ntmps78
 go_wp2_with (first|((with_reducible refine gate_dst (N:=10) rfl ?_);refine Kd.R_lit Kd.string _ 9 ?hg (N:=10) ?hd (xs:=([]:List ByteArray)) (inner:=[]) (ok:=fun _=>True) (okp:=fun _=>True) ?hr ?hp (fun _ hk=>hk) trivial (Below.refl _ _) (Nat.le_refl _) (by simp) ?_;(case hd=>rfl);(case hg=>rfl);(case hr=>first|(go_simp;done)|(go_simp;rfl));(case hp=>exact(Reps.none _ _));intro v204 w3 ho4 hb hg_ hnew_;clear hg_ hnew_;(first|rw [← Ny203.out] at ho4|(simp only [Int.reduceToNat] at ho4;rw [← Ny203.out] at ho4));have n0_:=Ha (Kd.R_lower ho4 (keep_size (w:=w) (g:=g) (row:=none) (by repeat(first|(with_reducible first|exact HK.out|apply Hd|apply Hi|apply Hb|apply Hh)|exact HK.out))));have n1_:=Ha (IsS102.below (by repeat(first|(with_reducible first|exact HI0.out|apply IsS102.alloc|apply IsS102.drewN|apply IsS102.drew|apply IsS102.set_1|apply IsS102.set_2)|exact HI0.out)) hb);have n2_:=Ha (Hn (by repeat(first|(with_reducible first|exact HK.out|apply Hd|apply Hi|apply Hb|apply Hh)|exact HK.out)) (KeepBut.of_below hb g none) (.inl rfl));have n3_:=Ha (below_step (by repeat(first|(with_reducible first|exact HB.out|apply Hf|apply Hc|apply Hg|refine Hj ?_ (IsS102.ge HI0.out))|exact HB.out)) hb);clear HI0;clear HK;clear HB;have qi:=n0_;have HI0:=n1_;have HK:=n2_;have HB:=n3_;clear n0_ n1_ n2_ n3_;clear hb ho4)|((with_reducible refine gate_dst (N:=11) rfl ?_);refine Kd.S_lit (Kd.slice 5 (Kd.int .u8)) _ 22 ?hg (N:=11) ?hd (xs:=([]:List (List Int))) (inner:=[]) (ok:=fun _=>True) (okp:=fun _=>True) ?hr ?hp (fun _ hk=>hk) trivial (Below.refl _ _) (Nat.le_refl _) (by simp) ?_;(case hd=>rfl);(case hg=>rfl);(case hr=>first|(go_simp;done)|(go_simp;rfl));(case hp=>exact(Reps.none _ _));intro v207 w5 ho6 hb hg_ hnew_;clear hg_ hnew_;(first|rw [← Ny206.out] at ho6|(simp only [Int.reduceToNat] at ho6;rw [← Ny206.out] at ho6));have n0_:=Ha (Kd.R_below (by(with_reducible repeat(first|apply Hl|apply Hm|apply He));exact qi.out) hb);have n1_:=Ha (Kd.S_lower ho6 (keep_size (w:=w) (g:=g) (row:=none) (by repeat(first|(with_reducible first|exact HK.out|apply Hd|apply Hi|apply Hb|apply Hh)|exact HK.out))));have n2_:=Ha (IsS102.below (by repeat(first|(with_reducible first|exact HI0.out|apply IsS102.alloc|apply IsS102.drewN|apply IsS102.drew|apply IsS102.set_1|apply IsS102.set_2)|exact HI0.out)) hb);have n3_:=Ha (Hn (by repeat(first|(with_reducible first|exact HK.out|apply Hd|apply Hi|apply Hb|apply Hh)|exact HK.out)) (KeepBut.of_below hb g none) (.inl rfl));have n4_:=Ha (below_step (by repeat(first|(with_reducible first|exact HB.out|apply Hf|apply Hc|apply Hg|refine Hj ?_ (IsS102.ge HI0.out))|exact HB.out)) hb);clear qi;clear HI0;clear HK;clear HB;have qi:=n0_;have HO208:=n1_;have HI0:=n2_;have HK:=n3_;have HB:=n4_;clear n0_ n1_ n2_ n3_ n4_;clear hb ho6)|((with_reducible refine gate_callee (f:=65) rfl ?_);refine goesL_ (some 13) rfl rfl Try.func65 (by kernel_rfl) rfl #[.pointer (some ⟨g,0,none⟩),.int .i64 6] rfl (by(try simp only [List.map_toArray,List.map_cons,List.map_nil]);first|done|rfl|(simp only [List.length_drop,List.length_take];rfl)) ?_;(with_reducible refine(spec_l1Below.calls g s0_0 s0_1 s0_2 6 t209 t210 t211 w0 _ ?side1 ?side2 A2.out).mono ?_);(case side1=>repeat(first|(with_reducible first|exact HI0.out|apply IsS102.alloc|apply IsS102.drewN|apply IsS102.drew|apply IsS102.set_1|apply IsS102.set_2)|exact HI0.out));(case side2=>repeat(first|(with_reducible first|exact HB.out|apply Hf|apply Hc|apply Hg|refine Hj ?_ (IsS102.ge HI0.out))|exact HB.out));rintro e w7 ⟨rfl,hi,hb,hk⟩;refine⟨_,rfl,?_⟩;have n0_:=Ha (Hq (Kd.R_keep (IsS102.apart (show IsS102 w0 _ g s0_0 s0_1 s0_2 from by repeat(first|(with_reducible first|exact HI0.out|apply IsS102.alloc|apply IsS102.drewN|apply IsS102.drew|apply IsS102.set_1|apply IsS102.set_2)|exact HI0.out)) (by(with_reducible repeat(first|apply Hl|apply Hm|apply He));exact qi.out) (by decide)) hk (fun _ h=>h.2)) (fun _ h=>h.1));have n1_:=Ha (Kd.S_mono (Kd.S_keep (IsS102.apartS (show IsS102 w0 _ g s0_0 s0_1 s0_2 from by repeat(first|(with_reducible first|exact HI0.out|apply IsS102.alloc|apply IsS102.drewN|apply IsS102.drew|apply IsS102.set_1|apply IsS102.set_2)|exact HI0.out)) (by(with_reducible repeat(first|apply Ho|apply Hp|apply Hk));exact HO208.out) (by decide)) hk (fun _ h=>h.2)) (fun _ h=>h.1));have n2_:=Ha (Hn (by repeat(first|(with_reducible first|exact HK.out|apply Hd|apply Hi|apply Hb|apply Hh)|exact HK.out)) hk (.inl rfl));have n3_:=Ha (hb);have n4_:=Ha (hi);clear qi;clear HO208;clear HK;clear HB;clear HI0;have qi:=n0_;have HO208:=n1_;have HK:=n2_;have HB:=n3_;have HI0:=n4_;clear n0_ n1_ n2_ n3_ n4_;(try clear hb);(try clear hb2);(try clear hk);(try clear hi)))
 go_loopg [4,5,6] k (fun kq v4 v5 v6 w'=>∃ (x4_1:List ByteArray) (qc:List (List Int)) (qd:Int) (x1001_1:Int) (x1002_1:Int),v6=.int .i64 qd∧Aside0 (spec_l15DrawNames.l0 kq x4_1 qc qd s0_0 x1001_1 x1002_1=some (r1,r2,r3,r4))∧Aside0 (kq≤k)∧Aside0 (Kd.R Kd.string 9 w' w.heap.size (fun _=>True) v4 x4_1)∧Aside0 (Kd.S (Kd.slice 5 (Kd.int .u8)) 22 w' w.heap.size (fun _=>True) v5 qc)∧Aside0 (IsS102 w0 w' g s0_0 x1001_1 x1002_1)∧Aside0 (KeepBut w w' g none)∧Aside0 (Below w0.heap.size w0 w'))
 case atStart=>exact⟨(y203),(y206),(t209),(t210),(t211),(by first|rfl|(simp;done)|(simp [*];done)),H',⟨Nat.le_refl _⟩,⟨by(with_reducible repeat(first|apply Hl|apply Hm|apply He));exact qi.out⟩,⟨by(with_reducible repeat(first|apply Ho|apply Hp|apply Hk));exact HO208.out⟩,⟨by repeat(first|(with_reducible first|exact HI0.out|apply IsS102.alloc|apply IsS102.drewN|apply IsS102.drew|apply IsS102.set_1|apply IsS102.set_2)|exact HI0.out)⟩,⟨by repeat(first|(with_reducible first|exact HK.out|apply Hd|apply Hi|apply Hb|apply Hh)|exact HK.out)⟩,⟨by repeat(first|(with_reducible first|exact HB.out|apply Hf|apply Hc|apply Hg|refine Hj ?_ (IsS102.ge HI0.out))|exact HB.out)⟩⟩
 case round=>
  clear H'
  try clear p2
  try clear c6
  try clear c7
  obtain⟨x4_1,qc,qd,x1001_1,x1002_1,rfl,HA,HK1,qb,qa,HI0,HK,HB⟩:=hrel
  cases gk with
  | zero => exact absurd HA.out (by simp [spec_l15DrawNames.l0])
  | succ k1 =>
   have H:=HA.out
   clear HA
   simp only [spec_l15DrawNames.l0] at H
   by_cases c8:qd > 0
   ·rw [if_pos c8] at H
    have c8b0:decide (0 < qd)=true:=decide_eq_true c8
    clear c8
    obtain⟨y212,hy212⟩:∃ y_:List ByteArray,y_=(([(⟨#[114,101,101,108]⟩:ByteArray),(⟨#[97]⟩:ByteArray),(⟨#[98,95,49]⟩:ByteArray),(⟨#[77,73,88,46,119,97,118]⟩:ByteArray),(⟨#[114,101,101,108,49]⟩:ByteArray),(⟨#[90]⟩:ByteArray),(⟨#[115,117,98,46,116,120,116]⟩:ByteArray),(⟨#[48]⟩:ByteArray)]:List ByteArray)):=⟨_,rfl⟩
    replace H:((spec_l1Below.f s0_0 x1001_1 x1002_1 8).bind fun bt215=>(if 0≤bt215.1 then (if bt215.1 < (y212.length:Int) then (spec_l15DrawNames.l1 k1 x4_1 qc qd (rdOf ByteArray.empty y212 bt215.1) false 0 s0_0 bt215.2.1 bt215.2.2) else (none)) else (none)))=some (r1,r2,r3,r4):=by first|(rw [hy212];with_reducible exact H)|(have H2_:=(Option.bind_some _ _).symm.trans H;rw [hy212];with_reducible exact H2_)|(have H2_:=(Option.bind_some _ _).symm.trans H;with_reducible exact H2_)|with_reducible exact H|(rw [hy212];exact H)|exact H
    have Ny212:=Ha hy212
    clear hy212
    replace H:=Option.bind_eq_some_iff.mp H
    obtain⟨⟨qe,qf,qg⟩,A90,H⟩:=H
    replace H:(if 0≤qe then (if qe < (y212.length:Int) then (spec_l15DrawNames.l1 k1 x4_1 qc qd (rdOf ByteArray.empty y212 qe) false 0 s0_0 qf qg) else (none)) else (none))=some (r1,r2,r3,r4):=H
    have A9:=Ha A90
    clear A90
    by_cases c10:0≤qe
    ·rw [if_pos c10] at H
     have c10b0:decide (0≤qe)=true:=decide_eq_true c10
     clear c10
     by_cases c11:qe < (y212.length:Int)
     ·rw [if_pos c11] at H
      have c11b0:decide (qe < (y212.length:Int))=true:=decide_eq_true c11
      clear c11
      have H':=Ha H
      clear H
      go_wp2_with (first|((with_reducible refine gate_dst (N:=18) rfl ?_);refine Kd.R_lit Kd.string _ 9 ?hg (N:=18) ?hd (xs:=([(⟨#[114,101,101,108]⟩:ByteArray),(⟨#[97]⟩:ByteArray),(⟨#[98,95,49]⟩:ByteArray),(⟨#[77,73,88,46,119,97,118]⟩:ByteArray),(⟨#[114,101,101,108,49]⟩:ByteArray),(⟨#[90]⟩:ByteArray),(⟨#[115,117,98,46,116,120,116]⟩:ByteArray),(⟨#[48]⟩:ByteArray)]:List ByteArray)) (inner:=[.string (⟨#[114,101,101,108]⟩:ByteArray),.string (⟨#[97]⟩:ByteArray),.string (⟨#[98,95,49]⟩:ByteArray),.string (⟨#[77,73,88,46,119,97,118]⟩:ByteArray),.string (⟨#[114,101,101,108,49]⟩:ByteArray),.string (⟨#[90]⟩:ByteArray),.string (⟨#[115,117,98,46,116,120,116]⟩:ByteArray),.string (⟨#[48]⟩:ByteArray)]) (ok:=fun _=>True) (okp:=fun _=>True) ?hr ?hp (fun _ hk=>hk) trivial (Below.refl _ _) (Nat.le_refl _) (by simp) ?_;(case hd=>rfl);(case hg=>rfl);(case hr=>first|(go_simp;done)|(go_simp;rfl));(case hp=>exact(Reps.one (show Kd.M Kd.string _ _ _ (⟨#[114,101,101,108]⟩:ByteArray) [.string (⟨#[114,101,101,108]⟩:ByteArray)] from rfl) (Reps.one (show Kd.M Kd.string _ _ _ (⟨#[97]⟩:ByteArray) [.string (⟨#[97]⟩:ByteArray)] from rfl) (Reps.one (show Kd.M Kd.string _ _ _ (⟨#[98,95,49]⟩:ByteArray) [.string (⟨#[98,95,49]⟩:ByteArray)] from rfl) (Reps.one (show Kd.M Kd.string _ _ _ (⟨#[77,73,88,46,119,97,118]⟩:ByteArray) [.string (⟨#[77,73,88,46,119,97,118]⟩:ByteArray)] from rfl) (Reps.one (show Kd.M Kd.string _ _ _ (⟨#[114,101,101,108,49]⟩:ByteArray) [.string (⟨#[114,101,101,108,49]⟩:ByteArray)] from rfl) (Reps.one (show Kd.M Kd.string _ _ _ (⟨#[90]⟩:ByteArray) [.string (⟨#[90]⟩:ByteArray)] from rfl) (Reps.one (show Kd.M Kd.string _ _ _ (⟨#[115,117,98,46,116,120,116]⟩:ByteArray) [.string (⟨#[115,117,98,46,116,120,116]⟩:ByteArray)] from rfl) (Reps.one (show Kd.M Kd.string _ _ _ (⟨#[48]⟩:ByteArray) [.string (⟨#[48]⟩:ByteArray)] from rfl) (Reps.none _ _))))))))));intro v213 w12 ho13 hb hg_ hnew_;clear hg_ hnew_;(first|rw [← Ny212.out] at ho13|(simp only [Int.reduceToNat] at ho13;rw [← Ny212.out] at ho13));have n0_:=Ha (Kd.R_elder' (by(with_reducible repeat(first|apply Hl|apply Hm|apply He));exact qb.out) (Kd.R_base ho13) hb);have n1_:=Ha (Kd.S_below (by(with_reducible repeat(first|apply Ho|apply Hp|apply Hk));exact qa.out) hb);have n2_:=Ha (Kd.R_lower (Kd.R_new' ho13 (Kd.R_lt (by(with_reducible repeat(first|apply Hl|apply Hm|apply He));exact qb.out))) (keep_size (w:=w) (g:=g) (row:=none) (by repeat(first|(with_reducible first|exact HK.out|apply Hd|apply Hi|apply Hb|apply Hh)|exact HK.out))));have n3_:=Ha (IsS102.below (by repeat(first|(with_reducible first|exact HI0.out|apply IsS102.alloc|apply IsS102.drewN|apply IsS102.drew|apply IsS102.set_1|apply IsS102.set_2)|exact HI0.out)) hb);have n4_:=Ha (Hn (by repeat(first|(with_reducible first|exact HK.out|apply Hd|apply Hi|apply Hb|apply Hh)|exact HK.out)) (KeepBut.of_below hb g none) (.inl rfl));have n5_:=Ha (below_step (by repeat(first|(with_reducible first|exact HB.out|apply Hf|apply Hc|apply Hg|refine Hj ?_ (IsS102.ge HI0.out))|exact HB.out)) hb);clear qb;clear qa;clear HI0;clear HK;clear HB;have qb:=n0_;have qa:=n1_;have HO214:=n2_;have HI0:=n3_;have HK:=n4_;have HB:=n5_;clear n0_ n1_ n2_ n3_ n4_ n5_;clear hb ho13)|((with_reducible refine gate_callee (f:=65) rfl ?_);refine goesL_ (some 20) rfl rfl Try.func65 (by kernel_rfl) rfl #[.pointer (some ⟨g,0,none⟩),.int .i64 8] rfl (by(try simp only [List.map_toArray,List.map_cons,List.map_nil]);first|done|rfl|(simp only [List.length_drop,List.length_take];rfl)) ?_;(with_reducible refine(spec_l1Below.calls g s0_0 x1001_1 x1002_1 8 qe qf qg w0 _ ?side1 ?side2 A9.out).mono ?_);(case side1=>repeat(first|(with_reducible first|exact HI0.out|apply IsS102.alloc|apply IsS102.drewN|apply IsS102.drew|apply IsS102.set_1|apply IsS102.set_2)|exact HI0.out));(case side2=>repeat(first|(with_reducible first|exact HB.out|apply Hf|apply Hc|apply Hg|refine Hj ?_ (IsS102.ge HI0.out))|exact HB.out));rintro e w14 ⟨rfl,hi,hb,hk⟩;refine⟨_,rfl,?_⟩;have n0_:=Ha (Hq (Kd.R_keep (IsS102.apart (show IsS102 w0 _ g s0_0 x1001_1 x1002_1 from by repeat(first|(with_reducible first|exact HI0.out|apply IsS102.alloc|apply IsS102.drewN|apply IsS102.drew|apply IsS102.set_1|apply IsS102.set_2)|exact HI0.out)) (by(with_reducible repeat(first|apply Hl|apply Hm|apply He));exact qb.out) (by decide)) hk (fun _ h=>h.2)) (fun _ h=>h.1));have n1_:=Ha (Kd.S_mono (Kd.S_keep (IsS102.apartS (show IsS102 w0 _ g s0_0 x1001_1 x1002_1 from by repeat(first|(with_reducible first|exact HI0.out|apply IsS102.alloc|apply IsS102.drewN|apply IsS102.drew|apply IsS102.set_1|apply IsS102.set_2)|exact HI0.out)) (by(with_reducible repeat(first|apply Ho|apply Hp|apply Hk));exact qa.out) (by decide)) hk (fun _ h=>h.2)) (fun _ h=>h.1));have n2_:=Ha (Hq (Kd.R_keep (IsS102.apart (show IsS102 w0 _ g s0_0 x1001_1 x1002_1 from by repeat(first|(with_reducible first|exact HI0.out|apply IsS102.alloc|apply IsS102.drewN|apply IsS102.drew|apply IsS102.set_1|apply IsS102.set_2)|exact HI0.out)) (by(with_reducible repeat(first|apply Hl|apply Hm|apply He));exact HO214.out) (by decide)) hk (fun _ h=>h.2)) (fun _ h=>h.1));have n3_:=Ha (Hn (by repeat(first|(with_reducible first|exact HK.out|apply Hd|apply Hi|apply Hb|apply Hh)|exact HK.out)) hk (.inl rfl));have n4_:=Ha (hb);have n5_:=Ha (hi);clear qb;clear qa;clear HO214;clear HK;clear HB;clear HI0;have qb:=n0_;have qa:=n1_;have HO214:=n2_;have HK:=n3_;have HB:=n4_;have HI0:=n5_;clear n0_ n1_ n2_ n3_ n4_ n5_;(try clear hb);(try clear hb2);(try clear hk);(try clear hi);obtain⟨Ao15,co15,eo15⟩:=Kd.R_slice HO214.out;subst eo15;have p218:0≤(qe:Int):=of_decide_eq_true (by first|(with_reducible assumption)|assumption);have q218:qe < (y212.length:Int):=of_decide_eq_true (by first|(with_reducible assumption)|assumption);obtain⟨ad218,e218,hx218_0⟩:=Kd.at_string (Kd.R_reads' HO214.out).2.2 qe p218 q218;cases e218;replace p218:=eq_true p218;replace q218:=eq_true q218))
      go_loopg [8,9] k1 (fun kq v8 v9 w'=>∃ (x8_2:Bool) (qh:Int),v8=.bool x8_2∧v9=.int .i64 qh∧Aside0 (spec_l15DrawNames.l1 kq x4_1 qc qd (rdOf ByteArray.empty y212 qe) x8_2 qh s0_0 qf qg=some (r1,r2,r3,r4))∧Aside0 (kq≤k1)∧Aside0 (Kd.R Kd.string 9 w' w.heap.size (fun _=>True) u4 x4_1)∧Aside0 (Kd.S (Kd.slice 5 (Kd.int .u8)) 22 w' w.heap.size (fun _=>True) u5 qc)∧Aside0 (IsS102 w0 w' g s0_0 qf qg)∧Aside0 (KeepBut w w' g none)∧Aside0 (Below w0.heap.size w0 w'))
      case atStart=>exact⟨(false),(0),(by first|rfl|(simp;done)|(simp [*];done)),(by first|rfl|(simp;done)|(simp [*];done)),H',⟨Nat.le_refl _⟩,⟨by(with_reducible repeat(first|apply Hl|apply Hm|apply He));exact Hq qb.out (fun _ hk=>trivial)⟩,⟨by(with_reducible repeat(first|apply Ho|apply Hp|apply Hk));exact qa.out⟩,⟨by repeat(first|(with_reducible first|exact HI0.out|apply IsS102.alloc|apply IsS102.drewN|apply IsS102.drew|apply IsS102.set_1|apply IsS102.set_2)|exact HI0.out)⟩,⟨by repeat(first|(with_reducible first|exact HK.out|apply Hd|apply Hi|apply Hb|apply Hh)|exact HK.out)⟩,⟨by repeat(first|(with_reducible first|exact HB.out|apply Hf|apply Hc|apply Hg|refine Hj ?_ (IsS102.ge HI0.out))|exact HB.out)⟩⟩
      case round=>
       clear H'
       try clear c1
       try clear p2
       try clear q2
       try clear hx2
       try clear c6
       try clear c7
       try clear c8
       try clear c8b0
       try clear c10
       try clear c10b0
       try clear c11
       try clear c11b0
       try clear hx218_0
       try clear p2
       try clear p218
       try clear q218
       obtain⟨x8_2,qh,rfl,rfl,HA,HK2,qb,qa,HI0,HK,HB⟩:=hrel
       cases gk with
       | zero => exact absurd HA.out (by simp [spec_l15DrawNames.l1])
       | succ k2 =>
        have H:=HA.out
        clear HA
        simp only [spec_l15DrawNames.l1] at H
        by_cases c16:qh < (x4_1.length:Int)
        ·rw [if_pos c16] at H
         have c16b0:decide (qh < (x4_1.length:Int))=true:=decide_eq_true c16
         clear c16
         by_cases c17:x8_2=true
         ·subst c17
          have H1:(spec_l15DrawNames.l1 k2 x4_1 qc qd (rdOf ByteArray.empty y212 qe) true (wrap64 (qh+1)) s0_0 qf qg)=some (r1,r2,r3,r4):=by rw [if_pos rfl] at H;exact H
          clear H
          have H:=H1
          clear H1
          have H':=Ha H
          clear H
          obtain⟨Ao18,co18,eo18⟩:=Kd.R_slice qb.out
          subst eo18
          go_wp2
          go_roundg k2
          case measure=>have:=HK1.out;have:=HK2.out;omega
          case rel=>exact⟨(true),(wrap64 (qh+1)),(by first|rfl|(simp;done)|(simp [*];done)),(by first|rfl|(simp;done)|(simp [*];done)),H',⟨by have:=HK1.out;have:=HK2.out;omega⟩,⟨by(with_reducible repeat(first|apply Hl|apply Hm|apply He));exact qb.out⟩,⟨by(with_reducible repeat(first|apply Ho|apply Hp|apply Hk));exact qa.out⟩,⟨by repeat(first|(with_reducible first|exact HI0.out|apply IsS102.alloc|apply IsS102.drewN|apply IsS102.drew|apply IsS102.set_1|apply IsS102.set_2)|exact HI0.out)⟩,⟨by repeat(first|(with_reducible first|exact HK.out|apply Hd|apply Hi|apply Hb|apply Hh)|exact HK.out)⟩,⟨by repeat(first|(with_reducible first|exact HB.out|apply Hf|apply Hc|apply Hg|refine Hj ?_ (IsS102.ge HI0.out))|exact HB.out)⟩⟩
         ·replace c17:=Bool.eq_false_iff.mpr c17
          subst c17
          have H1:(if 0≤qh then (spec_l15DrawNames.l1 k2 x4_1 qc qd (rdOf ByteArray.empty y212 qe) ((rdOf ByteArray.empty x4_1 qh).toList == (rdOf ByteArray.empty y212 qe).toList) (wrap64 (qh+1)) s0_0 qf qg) else (none))=some (r1,r2,r3,r4):=by rw [if_neg (show ¬ (false=true) by decide)] at H;exact H
          clear H
          have H:=H1
          clear H1
          by_cases c19:0≤qh
          ·rw [if_pos c19] at H
           have c19b0:decide (0≤qh)=true:=decide_eq_true c19
           clear c19
           have H':=Ha H
           clear H
           obtain⟨Ao20,co20,eo20⟩:=Kd.R_slice qb.out
           subst eo20
           have p219:0≤(qh:Int):=of_decide_eq_true (by first|(with_reducible assumption)|assumption)
           have q219:qh < (x4_1.length:Int):=of_decide_eq_true (by first|(with_reducible assumption)|assumption)
           obtain⟨ad219,e219,hx219_0⟩:=Kd.at_string (Kd.R_reads' qb.out).2.2 qh p219 q219
           cases e219
           replace p219:=eq_true p219
           replace q219:=eq_true q219
           go_wp2
           go_roundg k2
           case measure=>have:=HK1.out;have:=HK2.out;omega
           case rel=>exact⟨(((rdOf ByteArray.empty x4_1 qh).toList == (rdOf ByteArray.empty y212 qe).toList)),(wrap64 (qh+1)),(by first|rfl|(simp;done)|(simp [*];done)),(by first|rfl|(simp;done)|(simp [*];done)),H',⟨by have:=HK1.out;have:=HK2.out;omega⟩,⟨by(with_reducible repeat(first|apply Hl|apply Hm|apply He));exact qb.out⟩,⟨by(with_reducible repeat(first|apply Ho|apply Hp|apply Hk));exact qa.out⟩,⟨by repeat(first|(with_reducible first|exact HI0.out|apply IsS102.alloc|apply IsS102.drewN|apply IsS102.drew|apply IsS102.set_1|apply IsS102.set_2)|exact HI0.out)⟩,⟨by repeat(first|(with_reducible first|exact HK.out|apply Hd|apply Hi|apply Hb|apply Hh)|exact HK.out)⟩,⟨by repeat(first|(with_reducible first|exact HB.out|apply Hf|apply Hc|apply Hg|refine Hj ?_ (IsS102.ge HI0.out))|exact HB.out)⟩⟩
          ·rw [if_neg c19] at H
           exact absurd H (by simp)
        ·rw [if_neg c16] at H
         have c16b0:decide (qh < (x4_1.length:Int))=false:=decide_eq_false c16
         clear c16
         by_cases c21:x8_2=true
         ·subst c21
          have H1:((spec_l1Once.f s0_0 qf qg 20).bind fun bt220=>(if bt220.1=true then (if x4_1.length < 8796093022208 then ((spec_l15DrawBody.f k2 s0_0 bt220.2.1 bt220.2.2).bind fun bt226=>(if qc.length < 5864062014805 then (spec_l15DrawNames.l0 k2 (x4_1 ++ [(rdOf ByteArray.empty y212 qe)]) (qc ++ [bt226.1]) (wrap64 (qd - 1)) s0_0 bt226.2.1 bt226.2.2) else (none))) else (none)) else (spec_l15DrawNames.l0 k2 x4_1 qc (wrap64 (qd - 1)) s0_0 bt220.2.1 bt220.2.2)))=some (r1,r2,r3,r4):=by rw [if_pos rfl] at H;exact H
          clear H
          have H:=H1
          clear H1
          replace H:=Option.bind_eq_some_iff.mp H
          obtain⟨⟨t220,ql,qm⟩,A220,H⟩:=H
          replace H:(if t220=true then (if x4_1.length < 8796093022208 then ((spec_l15DrawBody.f k2 s0_0 ql qm).bind fun bt226=>(if qc.length < 5864062014805 then (spec_l15DrawNames.l0 k2 (x4_1 ++ [(rdOf ByteArray.empty y212 qe)]) (qc ++ [bt226.1]) (wrap64 (qd - 1)) s0_0 bt226.2.1 bt226.2.2) else (none))) else (none)) else (spec_l15DrawNames.l0 k2 x4_1 qc (wrap64 (qd - 1)) s0_0 ql qm))=some (r1,r2,r3,r4):=H
          have A22:=Ha A220
          clear A220
          by_cases c23:t220=true
          ·subst c23
           have H1:(if x4_1.length < 8796093022208 then ((spec_l15DrawBody.f k2 s0_0 ql qm).bind fun bt226=>(if qc.length < 5864062014805 then (spec_l15DrawNames.l0 k2 (x4_1 ++ [(rdOf ByteArray.empty y212 qe)]) (qc ++ [bt226.1]) (wrap64 (qd - 1)) s0_0 bt226.2.1 bt226.2.2) else (none))) else (none))=some (r1,r2,r3,r4):=by rw [if_pos rfl] at H;exact H
           clear H
           have H:=H1
           clear H1
           by_cases c24:x4_1.length < 8796093022208
           ·rw [if_pos c24] at H
            have LMc24:=Ha c24
            clear c24
            obtain⟨y223,hy223⟩:∃ y_:List ByteArray,y_=(x4_1 ++ [(rdOf ByteArray.empty y212 qe)]):=⟨_,rfl⟩
            replace H:((spec_l15DrawBody.f k2 s0_0 ql qm).bind fun bt226=>(if qc.length < 5864062014805 then (spec_l15DrawNames.l0 k2 y223 (qc ++ [bt226.1]) (wrap64 (qd - 1)) s0_0 bt226.2.1 bt226.2.2) else (none)))=some (r1,r2,r3,r4):=by first|(rw [hy223];with_reducible exact H)|(have H2_:=(Option.bind_some _ _).symm.trans H;rw [hy223];with_reducible exact H2_)|(have H2_:=(Option.bind_some _ _).symm.trans H;with_reducible exact H2_)|with_reducible exact H|(rw [hy223];exact H)|exact H
            have Ny223:=Ha hy223
            clear hy223
            replace H:=Option.bind_eq_some_iff.mp H
            obtain⟨⟨t226,t229,t230⟩,A250,H⟩:=H
            replace H:(if qc.length < 5864062014805 then (spec_l15DrawNames.l0 k2 y223 (qc ++ [t226]) (wrap64 (qd - 1)) s0_0 t229 t230) else (none))=some (r1,r2,r3,r4):=H
            have A25:=Ha A250
            clear A250
            by_cases c26:qc.length < 5864062014805
            ·rw [if_pos c26] at H
             have LMc26:=Ha c26
             clear c26
             obtain⟨y231,hy231⟩:∃ y_:List (List Int),y_=(qc ++ [t226]):=⟨_,rfl⟩
             replace H:(spec_l15DrawNames.l0 k2 y223 y231 (wrap64 (qd - 1)) s0_0 t229 t230)=some (r1,r2,r3,r4):=by first|(rw [hy231];with_reducible exact H)|(have H2_:=(Option.bind_some _ _).symm.trans H;rw [hy231];with_reducible exact H2_)|(have H2_:=(Option.bind_some _ _).symm.trans H;with_reducible exact H2_)|with_reducible exact H|(rw [hy231];exact H)|exact H
             have Ny231:=Ha hy231
             clear hy231
             have H':=Ha H
             clear H
             obtain⟨Ao27,co27,eo27⟩:=Kd.R_slice qb.out
             subst eo27
             go_wp2_with (first|(go_at_call 68;(with_reducible refine(spec_l1Once.calls g s0_0 qf qg 20 true ql qm w0 _ ?side1 ?side2 A22.out).mono ?_);(case side1=>repeat(first|(with_reducible first|exact HI0.out|apply IsS102.alloc|apply IsS102.drewN|apply IsS102.drew|apply IsS102.set_1|apply IsS102.set_2)|exact HI0.out));(case side2=>repeat(first|(with_reducible first|exact HB.out|apply Hf|apply Hc|apply Hg|refine Hj ?_ (IsS102.ge HI0.out))|exact HB.out));rintro e w28 ⟨rfl,hi,hb,hk⟩;have n0_:=Ha (Hq (Kd.R_keep (IsS102.apart (show IsS102 w0 _ g s0_0 qf qg from by repeat(first|(with_reducible first|exact HI0.out|apply IsS102.alloc|apply IsS102.drewN|apply IsS102.drew|apply IsS102.set_1|apply IsS102.set_2)|exact HI0.out)) (by(with_reducible repeat(first|apply Hl|apply Hm|apply He));exact qb.out) (by decide)) hk (fun _ h=>h.2)) (fun _ h=>h.1));have n1_:=Ha (Kd.S_mono (Kd.S_keep (IsS102.apartS (show IsS102 w0 _ g s0_0 qf qg from by repeat(first|(with_reducible first|exact HI0.out|apply IsS102.alloc|apply IsS102.drewN|apply IsS102.drew|apply IsS102.set_1|apply IsS102.set_2)|exact HI0.out)) (by(with_reducible repeat(first|apply Ho|apply Hp|apply Hk));exact qa.out) (by decide)) hk (fun _ h=>h.2)) (fun _ h=>h.1));have n2_:=Ha (Hn (by repeat(first|(with_reducible first|exact HK.out|apply Hd|apply Hi|apply Hb|apply Hh)|exact HK.out)) hk (.inl rfl));have n3_:=Ha (hb);have n4_:=Ha (hi);clear qb;clear qa;clear HK;clear HB;clear HI0;have qb:=n0_;have qa:=n1_;have HK:=n2_;have HB:=n3_;have HI0:=n4_;clear n0_ n1_ n2_ n3_ n4_;(try clear hb);(try clear hb2);(try clear hk);(try clear hi))|((with_reducible refine gate_builtin (b:=.append) (xs:=#[.tmp 44,.tmp 46]) rfl ?_);at_builtin;refine Kd.R_append Kd.string w.heap.size rfl (.tmp 44) (.tmp 46) 46 9 (.string ⟨#[]⟩) 16 rfl Try.underlying46 info9 rfl (by decide) (by omega) (.slice Ao27 x4_1.length co27) x4_1 (rdOf ByteArray.empty y212 qe) [.string (rdOf ByteArray.empty y212 qe)] (fun _=>True) (fun _=>False) rfl rfl ?aP (fun _ hk=>hk.elim) ?aF ?aO (Below.refl _ _) ?aS ?aL ?_;(case aP=>exact rfl);(case aF=>exact(fun _ _=>trivial));(case aO=>exact(by(with_reducible repeat(first|apply Hl|apply Hm|apply He));exact qb.out));(case aS=>exact(keep_size (w:=w) (g:=g) (row:=none) (by repeat(first|(with_reducible first|exact HK.out|apply Hd|apply Hi|apply Hb|apply Hh)|exact HK.out))));(case aL=>have:=LMc24.out;omega);intro v224 w29 ho hb hg hat;rw [← Ny223.out] at ho;have n0_:=Ha (Kd.S_over' (by(with_reducible repeat(first|apply Ho|apply Hp|apply Hk));exact qa.out) (Kd.R_typed (by(with_reducible repeat(first|apply Hl|apply Hm|apply He));exact qb.out)) (by decide) hg);have n1_:=Ha (IsS102.grown (by repeat(first|(with_reducible first|exact HI0.out|apply IsS102.alloc|apply IsS102.drewN|apply IsS102.drew|apply IsS102.set_1|apply IsS102.set_2)|exact HI0.out)) hg (IsS102.own_ne HI0.out qb.out (by decide)));have n2_:=Ha (below_weaken (by repeat(first|(with_reducible first|exact HB.out|apply Hf|apply Hc|apply Hg|refine Hj ?_ (IsS102.ge HI0.out))|exact HB.out)) HL.out hb);have n3_:=Ha (Hn (by repeat(first|(with_reducible first|exact HK.out|apply Hd|apply Hi|apply Hb|apply Hh)|exact HK.out)) (KeepBut.of_grown hg g) (Kd.R_base2 qb.out));have n4_:=Ha (ho);clear qa;clear HI0;clear HB;clear HK;clear qb;have qa:=n0_;have HI0:=n1_;have HB:=n2_;have HK:=n3_;have qj:=n4_;clear n0_ n1_ n2_ n3_ n4_;clear ho hb hg hat)|((with_reducible refine gate_callee (f:=70) rfl ?_);refine goesL_ (some 50) rfl rfl Try.func70 (by kernel_rfl) rfl #[.pointer (some ⟨g,0,none⟩)] rfl (by(try simp only [List.map_toArray,List.map_cons,List.map_nil]);first|done|rfl|(simp only [List.length_drop,List.length_take];rfl)) ?_;(with_reducible refine(spec_l15DrawBody.calls k2 g s0_0 ql qm t226 t229 t230 w0 _ ?side1 ?side2 A25.out).mono ?_);(case side1=>repeat(first|(with_reducible first|exact HI0.out|apply IsS102.alloc|apply IsS102.drewN|apply IsS102.drew|apply IsS102.set_1|apply IsS102.set_2)|exact HI0.out));(case side2=>repeat(first|(with_reducible first|exact HB.out|apply Hf|apply Hc|apply Hg|refine Hj ?_ (IsS102.ge HI0.out))|exact HB.out));rintro e w30 ⟨v227,rfl,ho0,hi,hb,hk⟩;refine⟨_,rfl,?_⟩;have n0_:=Ha (Kd.S_mono (Kd.S_told (Kd.S_oldK (IsS102.apartS (show IsS102 w0 _ g s0_0 ql qm from by repeat(first|(with_reducible first|exact HI0.out|apply IsS102.alloc|apply IsS102.drewN|apply IsS102.drew|apply IsS102.set_1|apply IsS102.set_2)|exact HI0.out)) (by(with_reducible repeat(first|apply Ho|apply Hp|apply Hk));exact qa.out) (by decide)) hk) (Kd.R_base ho0)) (fun _ h_=>h_.1));have n1_:=Ha (Hq (Kd.R_keep (IsS102.apart (show IsS102 w0 _ g s0_0 ql qm from by repeat(first|(with_reducible first|exact HI0.out|apply IsS102.alloc|apply IsS102.drewN|apply IsS102.drew|apply IsS102.set_1|apply IsS102.set_2)|exact HI0.out)) (by(with_reducible repeat(first|apply Hl|apply Hm|apply He));exact qj.out) (by decide)) hk (fun _ h=>h.2)) (fun _ h=>h.1));have n2_:=Ha (Kd.R_lower ho0 (keep_size (w:=w) (g:=g) (row:=none) (by repeat(first|(with_reducible first|exact HK.out|apply Hd|apply Hi|apply Hb|apply Hh)|exact HK.out))));have n3_:=Ha (Hn (by repeat(first|(with_reducible first|exact HK.out|apply Hd|apply Hi|apply Hb|apply Hh)|exact HK.out)) hk (.inl rfl));have n4_:=Ha (hb);have n5_:=Ha (hi);clear qa;clear qj;clear HK;clear HB;clear HI0;have qa:=n0_;have qj:=n1_;have HO228:=n2_;have HK:=n3_;have HB:=n4_;have HI0:=n5_;clear n0_ n1_ n2_ n3_ n4_ n5_;(try clear hb);(try clear hb2);(try clear hk);(try clear hi);(try clear ho0);obtain⟨Ao32,co32,eo32⟩:=Kd.R_slice HO228.out;subst eo32)|((with_reducible refine gate_builtin (b:=.append) (xs:=#[.tmp 48,.tmp 51]) rfl ?_);at_builtin;refine Kd.S_append (Kd.slice 5 (Kd.int .u8)) w.heap.size rfl (.tmp 48) (.tmp 51) 55 22 (.slice none 0 0) 24 rfl Try.underlying55 info22 rfl (by decide) (by omega) u5 qc t226 [.slice Ao32 t226.length co32] (fun _=>True) (fun k_=>some k_=(.slice Ao32 t226.length co32:Value).ownBlock) rfl rfl ?aP (fun k_ hk_=>((Hq (ok':=fun k_=>((fun _=>True)) k_∧some k_≠(u5:Value).ownBlock) (Kd.R_apart' (HO228.out) (Kd.S_typed qa.out) (by decide)) (fun k_ hk=>⟨trivial,hk.2⟩))).1 k_ hk_.symm) ?aF ?aO (Below.refl _ _) ?aS ?aL ?_;(case aP=>exact Kd.M_row (Hq (Kd.R_tight rfl (Hq (ok':=fun k_=>((fun _=>True)) k_∧some k_≠(u5:Value).ownBlock) (Kd.R_apart' (HO228.out) (Kd.S_typed qa.out) (by decide)) (fun k_ hk=>⟨trivial,hk.2⟩))) (fun _ h_=>h_)));(case aF=>exact(fun _ _=>trivial));(case aO=>exact(by(with_reducible repeat(first|apply Ho|apply Hp|apply Hk));exact Kd.S_mono qa.out (fun k_ hk=>⟨trivial,fun e_=>hk.2 e_⟩)));(case aS=>exact(keep_size (w:=w) (g:=g) (row:=none) (by repeat(first|(with_reducible first|exact HK.out|apply Hd|apply Hi|apply Hb|apply Hh)|exact HK.out))));(case aL=>have:=LMc26.out;omega);intro v232 w31 ho hb hg hat;rw [← Ny231.out] at ho;have n0_:=Ha (IsS102.grown (by repeat(first|(with_reducible first|exact HI0.out|apply IsS102.alloc|apply IsS102.drewN|apply IsS102.drew|apply IsS102.set_1|apply IsS102.set_2)|exact HI0.out)) hg (IsS102.own_neS HI0.out qa.out (by decide)));have n1_:=Ha (Kd.R_over' (by(with_reducible repeat(first|apply Hl|apply Hm|apply He));exact qj.out) (Kd.S_typed (by(with_reducible repeat(first|apply Ho|apply Hp|apply Hk));exact qa.out)) (by decide) hg);have n2_:=Ha (below_weaken (by repeat(first|(with_reducible first|exact HB.out|apply Hf|apply Hc|apply Hg|refine Hj ?_ (IsS102.ge HI0.out))|exact HB.out)) HL.out hb);have n3_:=Ha (Hn (by repeat(first|(with_reducible first|exact HK.out|apply Hd|apply Hi|apply Hb|apply Hh)|exact HK.out)) (KeepBut.of_grown hg g) (Kd.S_base2 qa.out));have n4_:=Ha (ho);clear HI0;clear qj;clear HB;clear HK;clear qa;clear HO228;have HI0:=n0_;have qj:=n1_;have HB:=n2_;have HK:=n3_;have HO233:=n4_;clear n0_ n1_ n2_ n3_ n4_;clear ho hb hg hat))
             go_roundg k2
             case measure=>have:=HK1.out;have:=HK2.out;omega
             case rel=>exact⟨(y223),(y231),(wrap64 (qd - 1)),(t229),(t230),(by first|rfl|(simp;done)|(simp [*];done)),H',⟨by have:=HK1.out;have:=HK2.out;omega⟩,⟨by(with_reducible repeat(first|apply Hl|apply Hm|apply He));exact qj.out⟩,⟨by(with_reducible repeat(first|apply Ho|apply Hp|apply Hk));exact HO233.out⟩,⟨by repeat(first|(with_reducible first|exact HI0.out|apply IsS102.alloc|apply IsS102.drewN|apply IsS102.drew|apply IsS102.set_1|apply IsS102.set_2)|exact HI0.out)⟩,⟨by repeat(first|(with_reducible first|exact HK.out|apply Hd|apply Hi|apply Hb|apply Hh)|exact HK.out)⟩,⟨by repeat(first|(with_reducible first|exact HB.out|apply Hf|apply Hc|apply Hg|refine Hj ?_ (IsS102.ge HI0.out))|exact HB.out)⟩⟩
            ·rw [if_neg c26] at H
             exact absurd H (by simp)
           ·rw [if_neg c24] at H
            exact absurd H (by simp)
          ·replace c23:=Bool.eq_false_iff.mpr c23
           subst c23
           have H1:(spec_l15DrawNames.l0 k2 x4_1 qc (wrap64 (qd - 1)) s0_0 ql qm)=some (r1,r2,r3,r4):=by rw [if_neg (show ¬ (false=true) by decide)] at H;exact H
           clear H
           have H:=H1
           clear H1
           have H':=Ha H
           clear H
           obtain⟨Ao33,co33,eo33⟩:=Kd.R_slice qb.out
           subst eo33
           go_wp2_with (first|(go_at_call 68;(with_reducible refine(spec_l1Once.calls g s0_0 qf qg 20 false ql qm w0 _ ?side1 ?side2 A22.out).mono ?_);(case side1=>repeat(first|(with_reducible first|exact HI0.out|apply IsS102.alloc|apply IsS102.drewN|apply IsS102.drew|apply IsS102.set_1|apply IsS102.set_2)|exact HI0.out));(case side2=>repeat(first|(with_reducible first|exact HB.out|apply Hf|apply Hc|apply Hg|refine Hj ?_ (IsS102.ge HI0.out))|exact HB.out));rintro e w34 ⟨rfl,hi,hb,hk⟩;have n0_:=Ha (Hq (Kd.R_keep (IsS102.apart (show IsS102 w0 _ g s0_0 qf qg from by repeat(first|(with_reducible first|exact HI0.out|apply IsS102.alloc|apply IsS102.drewN|apply IsS102.drew|apply IsS102.set_1|apply IsS102.set_2)|exact HI0.out)) (by(with_reducible repeat(first|apply Hl|apply Hm|apply He));exact qb.out) (by decide)) hk (fun _ h=>h.2)) (fun _ h=>h.1));have n1_:=Ha (Kd.S_mono (Kd.S_keep (IsS102.apartS (show IsS102 w0 _ g s0_0 qf qg from by repeat(first|(with_reducible first|exact HI0.out|apply IsS102.alloc|apply IsS102.drewN|apply IsS102.drew|apply IsS102.set_1|apply IsS102.set_2)|exact HI0.out)) (by(with_reducible repeat(first|apply Ho|apply Hp|apply Hk));exact qa.out) (by decide)) hk (fun _ h=>h.2)) (fun _ h=>h.1));have n2_:=Ha (Hn (by repeat(first|(with_reducible first|exact HK.out|apply Hd|apply Hi|apply Hb|apply Hh)|exact HK.out)) hk (.inl rfl));have n3_:=Ha (hb);have n4_:=Ha (hi);clear qb;clear qa;clear HK;clear HB;clear HI0;have qb:=n0_;have qa:=n1_;have HK:=n2_;have HB:=n3_;have HI0:=n4_;clear n0_ n1_ n2_ n3_ n4_;(try clear hb);(try clear hb2);(try clear hk);(try clear hi)))
           go_roundg k2
           case measure=>have:=HK1.out;have:=HK2.out;omega
           case rel=>exact⟨(x4_1),(qc),(wrap64 (qd - 1)),(ql),(qm),(by first|rfl|(simp;done)|(simp [*];done)),H',⟨by have:=HK1.out;have:=HK2.out;omega⟩,⟨by(with_reducible repeat(first|apply Hl|apply Hm|apply He));exact qb.out⟩,⟨by(with_reducible repeat(first|apply Ho|apply Hp|apply Hk));exact qa.out⟩,⟨by repeat(first|(with_reducible first|exact HI0.out|apply IsS102.alloc|apply IsS102.drewN|apply IsS102.drew|apply IsS102.set_1|apply IsS102.set_2)|exact HI0.out)⟩,⟨by repeat(first|(with_reducible first|exact HK.out|apply Hd|apply Hi|apply Hb|apply Hh)|exact HK.out)⟩,⟨by repeat(first|(with_reducible first|exact HB.out|apply Hf|apply Hc|apply Hg|refine Hj ?_ (IsS102.ge HI0.out))|exact HB.out)⟩⟩
         ·replace c21:=Bool.eq_false_iff.mpr c21
          subst c21
          have H1:(if x4_1.length < 8796093022208 then ((spec_l15DrawBody.f k2 s0_0 qf qg).bind fun bt237=>(if qc.length < 5864062014805 then (spec_l15DrawNames.l0 k2 (x4_1 ++ [(rdOf ByteArray.empty y212 qe)]) (qc ++ [bt237.1]) (wrap64 (qd - 1)) s0_0 bt237.2.1 bt237.2.2) else (none))) else (none))=some (r1,r2,r3,r4):=by rw [if_neg (show ¬ (false=true) by decide)] at H;exact H
          clear H
          have H:=H1
          clear H1
          by_cases c35:x4_1.length < 8796093022208
          ·rw [if_pos c35] at H
           have LMc35:=Ha c35
           clear c35
           obtain⟨y234,hy234⟩:∃ y_:List ByteArray,y_=(x4_1 ++ [(rdOf ByteArray.empty y212 qe)]):=⟨_,rfl⟩
           replace H:((spec_l15DrawBody.f k2 s0_0 qf qg).bind fun bt237=>(if qc.length < 5864062014805 then (spec_l15DrawNames.l0 k2 y234 (qc ++ [bt237.1]) (wrap64 (qd - 1)) s0_0 bt237.2.1 bt237.2.2) else (none)))=some (r1,r2,r3,r4):=by first|(rw [hy234];with_reducible exact H)|(have H2_:=(Option.bind_some _ _).symm.trans H;rw [hy234];with_reducible exact H2_)|(have H2_:=(Option.bind_some _ _).symm.trans H;with_reducible exact H2_)|with_reducible exact H|(rw [hy234];exact H)|exact H
           have Ny234:=Ha hy234
           clear hy234
           replace H:=Option.bind_eq_some_iff.mp H
           obtain⟨⟨t237,t240,t241⟩,A360,H⟩:=H
           replace H:(if qc.length < 5864062014805 then (spec_l15DrawNames.l0 k2 y234 (qc ++ [t237]) (wrap64 (qd - 1)) s0_0 t240 t241) else (none))=some (r1,r2,r3,r4):=H
           have A36:=Ha A360
           clear A360
           by_cases c37:qc.length < 5864062014805
           ·rw [if_pos c37] at H
            have LMc37:=Ha c37
            clear c37
            obtain⟨y242,hy242⟩:∃ y_:List (List Int),y_=(qc ++ [t237]):=⟨_,rfl⟩
            replace H:(spec_l15DrawNames.l0 k2 y234 y242 (wrap64 (qd - 1)) s0_0 t240 t241)=some (r1,r2,r3,r4):=by first|(rw [hy242];with_reducible exact H)|(have H2_:=(Option.bind_some _ _).symm.trans H;rw [hy242];with_reducible exact H2_)|(have H2_:=(Option.bind_some _ _).symm.trans H;with_reducible exact H2_)|with_reducible exact H|(rw [hy242];exact H)|exact H
            have Ny242:=Ha hy242
            clear hy242
            have H':=Ha H
            clear H
            obtain⟨Ao38,co38,eo38⟩:=Kd.R_slice qb.out
            subst eo38
            go_wp2_with (first|((with_reducible refine gate_builtin (b:=.append) (xs:=#[.tmp 44,.tmp 46]) rfl ?_);at_builtin;refine Kd.R_append Kd.string w.heap.size rfl (.tmp 44) (.tmp 46) 46 9 (.string ⟨#[]⟩) 16 rfl Try.underlying46 info9 rfl (by decide) (by omega) (.slice Ao38 x4_1.length co38) x4_1 (rdOf ByteArray.empty y212 qe) [.string (rdOf ByteArray.empty y212 qe)] (fun _=>True) (fun _=>False) rfl rfl ?aP (fun _ hk=>hk.elim) ?aF ?aO (Below.refl _ _) ?aS ?aL ?_;(case aP=>exact rfl);(case aF=>exact(fun _ _=>trivial));(case aO=>exact(by(with_reducible repeat(first|apply Hl|apply Hm|apply He));exact qb.out));(case aS=>exact(keep_size (w:=w) (g:=g) (row:=none) (by repeat(first|(with_reducible first|exact HK.out|apply Hd|apply Hi|apply Hb|apply Hh)|exact HK.out))));(case aL=>have:=LMc35.out;omega);intro v235 w39 ho hb hg hat;rw [← Ny234.out] at ho;have n0_:=Ha (Kd.S_over' (by(with_reducible repeat(first|apply Ho|apply Hp|apply Hk));exact qa.out) (Kd.R_typed (by(with_reducible repeat(first|apply Hl|apply Hm|apply He));exact qb.out)) (by decide) hg);have n1_:=Ha (IsS102.grown (by repeat(first|(with_reducible first|exact HI0.out|apply IsS102.alloc|apply IsS102.drewN|apply IsS102.drew|apply IsS102.set_1|apply IsS102.set_2)|exact HI0.out)) hg (IsS102.own_ne HI0.out qb.out (by decide)));have n2_:=Ha (below_weaken (by repeat(first|(with_reducible first|exact HB.out|apply Hf|apply Hc|apply Hg|refine Hj ?_ (IsS102.ge HI0.out))|exact HB.out)) HL.out hb);have n3_:=Ha (Hn (by repeat(first|(with_reducible first|exact HK.out|apply Hd|apply Hi|apply Hb|apply Hh)|exact HK.out)) (KeepBut.of_grown hg g) (Kd.R_base2 qb.out));have n4_:=Ha (ho);clear qa;clear HI0;clear HB;clear HK;clear qb;have qa:=n0_;have HI0:=n1_;have HB:=n2_;have HK:=n3_;have qk:=n4_;clear n0_ n1_ n2_ n3_ n4_;clear ho hb hg hat)|((with_reducible refine gate_callee (f:=70) rfl ?_);refine goesL_ (some 50) rfl rfl Try.func70 (by kernel_rfl) rfl #[.pointer (some ⟨g,0,none⟩)] rfl (by(try simp only [List.map_toArray,List.map_cons,List.map_nil]);first|done|rfl|(simp only [List.length_drop,List.length_take];rfl)) ?_;(with_reducible refine(spec_l15DrawBody.calls k2 g s0_0 qf qg t237 t240 t241 w0 _ ?side1 ?side2 A36.out).mono ?_);(case side1=>repeat(first|(with_reducible first|exact HI0.out|apply IsS102.alloc|apply IsS102.drewN|apply IsS102.drew|apply IsS102.set_1|apply IsS102.set_2)|exact HI0.out));(case side2=>repeat(first|(with_reducible first|exact HB.out|apply Hf|apply Hc|apply Hg|refine Hj ?_ (IsS102.ge HI0.out))|exact HB.out));rintro e w40 ⟨v238,rfl,ho0,hi,hb,hk⟩;refine⟨_,rfl,?_⟩;have n0_:=Ha (Kd.S_mono (Kd.S_told (Kd.S_oldK (IsS102.apartS (show IsS102 w0 _ g s0_0 qf qg from by repeat(first|(with_reducible first|exact HI0.out|apply IsS102.alloc|apply IsS102.drewN|apply IsS102.drew|apply IsS102.set_1|apply IsS102.set_2)|exact HI0.out)) (by(with_reducible repeat(first|apply Ho|apply Hp|apply Hk));exact qa.out) (by decide)) hk) (Kd.R_base ho0)) (fun _ h_=>h_.1));have n1_:=Ha (Hq (Kd.R_keep (IsS102.apart (show IsS102 w0 _ g s0_0 qf qg from by repeat(first|(with_reducible first|exact HI0.out|apply IsS102.alloc|apply IsS102.drewN|apply IsS102.drew|apply IsS102.set_1|apply IsS102.set_2)|exact HI0.out)) (by(with_reducible repeat(first|apply Hl|apply Hm|apply He));exact qk.out) (by decide)) hk (fun _ h=>h.2)) (fun _ h=>h.1));have n2_:=Ha (Kd.R_lower ho0 (keep_size (w:=w) (g:=g) (row:=none) (by repeat(first|(with_reducible first|exact HK.out|apply Hd|apply Hi|apply Hb|apply Hh)|exact HK.out))));have n3_:=Ha (Hn (by repeat(first|(with_reducible first|exact HK.out|apply Hd|apply Hi|apply Hb|apply Hh)|exact HK.out)) hk (.inl rfl));have n4_:=Ha (hb);have n5_:=Ha (hi);clear qa;clear qk;clear HK;clear HB;clear HI0;have qa:=n0_;have qk:=n1_;have HO239:=n2_;have HK:=n3_;have HB:=n4_;have HI0:=n5_;clear n0_ n1_ n2_ n3_ n4_ n5_;(try clear hb);(try clear hb2);(try clear hk);(try clear hi);(try clear ho0);obtain⟨Ao42,co42,eo42⟩:=Kd.R_slice HO239.out;subst eo42)|((with_reducible refine gate_builtin (b:=.append) (xs:=#[.tmp 48,.tmp 51]) rfl ?_);at_builtin;refine Kd.S_append (Kd.slice 5 (Kd.int .u8)) w.heap.size rfl (.tmp 48) (.tmp 51) 55 22 (.slice none 0 0) 24 rfl Try.underlying55 info22 rfl (by decide) (by omega) u5 qc t237 [.slice Ao42 t237.length co42] (fun _=>True) (fun k_=>some k_=(.slice Ao42 t237.length co42:Value).ownBlock) rfl rfl ?aP (fun k_ hk_=>((Hq (ok':=fun k_=>((fun _=>True)) k_∧some k_≠(u5:Value).ownBlock) (Kd.R_apart' (HO239.out) (Kd.S_typed qa.out) (by decide)) (fun k_ hk=>⟨trivial,hk.2⟩))).1 k_ hk_.symm) ?aF ?aO (Below.refl _ _) ?aS ?aL ?_;(case aP=>exact Kd.M_row (Hq (Kd.R_tight rfl (Hq (ok':=fun k_=>((fun _=>True)) k_∧some k_≠(u5:Value).ownBlock) (Kd.R_apart' (HO239.out) (Kd.S_typed qa.out) (by decide)) (fun k_ hk=>⟨trivial,hk.2⟩))) (fun _ h_=>h_)));(case aF=>exact(fun _ _=>trivial));(case aO=>exact(by(with_reducible repeat(first|apply Ho|apply Hp|apply Hk));exact Kd.S_mono qa.out (fun k_ hk=>⟨trivial,fun e_=>hk.2 e_⟩)));(case aS=>exact(keep_size (w:=w) (g:=g) (row:=none) (by repeat(first|(with_reducible first|exact HK.out|apply Hd|apply Hi|apply Hb|apply Hh)|exact HK.out))));(case aL=>have:=LMc37.out;omega);intro v243 w41 ho hb hg hat;rw [← Ny242.out] at ho;have n0_:=Ha (IsS102.grown (by repeat(first|(with_reducible first|exact HI0.out|apply IsS102.alloc|apply IsS102.drewN|apply IsS102.drew|apply IsS102.set_1|apply IsS102.set_2)|exact HI0.out)) hg (IsS102.own_neS HI0.out qa.out (by decide)));have n1_:=Ha (Kd.R_over' (by(with_reducible repeat(first|apply Hl|apply Hm|apply He));exact qk.out) (Kd.S_typed (by(with_reducible repeat(first|apply Ho|apply Hp|apply Hk));exact qa.out)) (by decide) hg);have n2_:=Ha (below_weaken (by repeat(first|(with_reducible first|exact HB.out|apply Hf|apply Hc|apply Hg|refine Hj ?_ (IsS102.ge HI0.out))|exact HB.out)) HL.out hb);have n3_:=Ha (Hn (by repeat(first|(with_reducible first|exact HK.out|apply Hd|apply Hi|apply Hb|apply Hh)|exact HK.out)) (KeepBut.of_grown hg g) (Kd.S_base2 qa.out));have n4_:=Ha (ho);clear HI0;clear qk;clear HB;clear HK;clear qa;clear HO239;have HI0:=n0_;have qk:=n1_;have HB:=n2_;have HK:=n3_;have HO244:=n4_;clear n0_ n1_ n2_ n3_ n4_;clear ho hb hg hat))
            go_roundg k2
            case measure=>have:=HK1.out;have:=HK2.out;omega
            case rel=>exact⟨(y234),(y242),(wrap64 (qd - 1)),(t240),(t241),(by first|rfl|(simp;done)|(simp [*];done)),H',⟨by have:=HK1.out;have:=HK2.out;omega⟩,⟨by(with_reducible repeat(first|apply Hl|apply Hm|apply He));exact qk.out⟩,⟨by(with_reducible repeat(first|apply Ho|apply Hp|apply Hk));exact HO244.out⟩,⟨by repeat(first|(with_reducible first|exact HI0.out|apply IsS102.alloc|apply IsS102.drewN|apply IsS102.drew|apply IsS102.set_1|apply IsS102.set_2)|exact HI0.out)⟩,⟨by repeat(first|(with_reducible first|exact HK.out|apply Hd|apply Hi|apply Hb|apply Hh)|exact HK.out)⟩,⟨by repeat(first|(with_reducible first|exact HB.out|apply Hf|apply Hc|apply Hg|refine Hj ?_ (IsS102.ge HI0.out))|exact HB.out)⟩⟩
           ·rw [if_neg c37] at H
            exact absurd H (by simp)
          ·rw [if_neg c35] at H
           exact absurd H (by simp)
     ·rw [if_neg c11] at H
      exact absurd H (by simp)
    ·rw [if_neg c10] at H
     exact absurd H (by simp)
   ·rw [if_neg c8] at H
    have c8b0:decide (0 < qd)=false:=decide_eq_false c8
    clear c8
    simp only [Option.some.injEq,Prod.mk.injEq] at H
    obtain⟨rfl,rfl,rfl,rfl⟩:=H
    go_wp2
    go_ret2
    exact⟨_,_,by first|rfl|(simp [errW_none,errW_some] <;> rfl)|(simp [*,errW_none,errW_some] <;> rfl),by(with_reducible repeat(first|apply Hl|apply Hm|apply He));exact qb.out,by(with_reducible repeat(first|apply Ho|apply Hp|apply Hk));exact qa.out,by repeat(first|(with_reducible first|exact HI0.out|apply IsS102.alloc|apply IsS102.drewN|apply IsS102.drew|apply IsS102.set_1|apply IsS102.set_2)|exact HI0.out),by repeat(first|(with_reducible first|exact HB.out|apply Hf|apply Hc|apply Hg|refine Hj ?_ (IsS102.ge HI0.out))|exact HB.out),by repeat(first|(with_reducible first|exact HK.out|apply Hd|apply Hi|apply Hb|apply Hh)|exact HK.out)⟩

end Go.Proofs.Ytelcpfanjjfgdaa.HFnPacked
