-- Laid by myprint.py, a program of this repo, out of the kit's printer and this repo's own texts (wip/hand).
import Derived.Test.YtbdnpfjjaokdbaaHFnDecodedx0
namespace Go.Proofs.Ytbdnpfjjaokdbaa.HFnDecoded
open Go.RowKit Go.Proofs.YtbdnpfjjaokdbaaW.PrintWords Go.Proofs.YtbdnpfjjaokdbaaW.PrintLast Go.Proofs.YtbdnpfjjaokdbaaW.PrintMore
attribute [local go_sem] max2_int min2_int max_two min_two max_three min_three max_four min_four   -- for this text's walks alone
set_option linter.unusedVariables false
set_option linter.unusedSimpArgs false
theorem Ka : type_of% @Aside0.mk := @Aside0.mk
theorem Kb : type_of% @pw_below_drewN := @pw_below_drewN
theorem Kc : type_of% @below_alloc := @below_alloc
theorem Ke : type_of% @below_drew1 := @below_drew1
theorem Kf : type_of% @KeepBut.set_ := @KeepBut.set_

/-- A state of type 84 at block g of W; what its slices lead to came in by w0. -/
def IsS84 (w0 W : World) (g : Nat) (f0 : List Int) (f1 : Int) (f2 : Int) : Prop := ∃ A0 c0, W.heap[g]? = some (.cells #[.slice A0 f0.length c0, .int .i64 f1, .int .i64 f2] 84 (0, 0)) ∧ w0.heap.size ≤ g ∧ Kd.C (Kd.int .u8) w0 A0 f0.length f0
theorem IsS84.grown {w0 W : World} {g : Nat} {f0 : List Int} {f1 : Int} {f2 : Int} {W1 : World} {row : Option Nat} (h : IsS84 w0 W g f0 f1 f2) (hw : W.grownBy W1 row) (hne : some g ≠ row) : IsS84 w0 W1 g f0 f1 f2 := by
 obtain⟨A0,c0,hb,hg,hr0⟩:=h
 exact⟨A0,c0,blk_grown hb hw hne,hg,hr0⟩
theorem IsS84.own_neN {w0 W : World} {g : Nat} {f0 : List Int} {f1 : Int} {f2 : Int} {α : Type} {d : Kd α} {e : Nat} {base : Nat} {ok : Nat → Prop} {v : Value} {xs : List α} (h : IsS84 w0 W g f0 f1 f2) (ho : Kd.N d e W base ok v xs) (ht : e ≠ 84) : some g ≠ v.ownBlock := by
 obtain⟨A0,c0,hb,hg,hr0⟩:=h
 exact Kd.N_ne ho hb ht
theorem IsS84.fresh {w0 W : World} {g : Nat} {f0 : List Int} {f1 : Int} {f2 : Int} (h : IsS84 w0 W g f0 f1 f2) : ∀ k, W.heap.size ≤ k → k ≠ g := by
 obtain⟨A0,c0,hb,hg,hr0⟩:=h
 exact Kd.freshB hb
theorem IsS84.kept {w0 W : World} {g : Nat} {f0 : List Int} {f1 : Int} {f2 : Int} {W1 : World} {S : Nat → Prop} (h : IsS84 w0 W g f0 f1 f2) (hk : Kept W W1 S) (hne : ¬ S g) : IsS84 w0 W1 g f0 f1 f2 := by
 obtain⟨A0,c0,hb,hg,hr0⟩:=h
 exact⟨A0,c0,blk_kept hb hk hne,hg,hr0⟩
theorem IsS84.below {w0 W : World} {g : Nat} {f0 : List Int} {f1 : Int} {f2 : Int} {W1 : World} (h : IsS84 w0 W g f0 f1 f2) (hw : Below W.heap.size W W1) : IsS84 w0 W1 g f0 f1 f2 := h.grown (grown_of_below hw none) (by simp)
theorem IsS84.alloc {w0 W : World} {g : Nat} {f0 : List Int} {f1 : Int} {f2 : Int} (h : IsS84 w0 W g f0 f1 f2) (o : Obj) : IsS84 w0 (W.alloc o) g f0 f1 f2 := h.below (Kc (Below.refl _ _) o)
theorem IsS84.drewN {w0 W : World} {g : Nat} {f0 : List Int} {f1 : Int} {f2 : Int} (h : IsS84 w0 W g f0 f1 f2) (m : Nat) : IsS84 w0 (W.drewN m) g f0 f1 f2 := h
theorem IsS84.drew {w0 W : World} {g : Nat} {f0 : List Int} {f1 : Int} {f2 : Int} (h : IsS84 w0 W g f0 f1 f2) : IsS84 w0 W.drew g f0 f1 f2 := h
theorem IsS84.at_ {w0 W : World} {g : Nat} {f0 : List Int} {f1 : Int} {f2 : Int} {w' : World} {m : Nat} (hq : W.drewN m = w') (h : IsS84 w0 W g f0 f1 f2) : IsS84 w0 w' g f0 f1 f2 := by subst hq; exact IsS84.drewN h m
theorem IsS84.apart {w0 W : World} {g : Nat} {f0 : List Int} {f1 : Int} {f2 : Int} {α : Type} {d : Kd α} {e : Nat} {base : Nat} {ok : Nat → Prop} {v : Value} {xs : List α} (h : IsS84 w0 W g f0 f1 f2) (ho : d.R e W base ok v xs) (ht : ∀ q, q ∈ e :: d.E → q ≠ 84) : d.R e W base (fun k => ok k ∧ k ≠ g) v xs := by
 obtain⟨A0,c0,hb,hg,hr0⟩:=h
 exact Kd.R_types ho hb ht
theorem IsS84.own_ne {w0 W : World} {g : Nat} {f0 : List Int} {f1 : Int} {f2 : Int} {α : Type} {d : Kd α} {e : Nat} {base : Nat} {ok : Nat → Prop} {v : Value} {xs : List α} (h : IsS84 w0 W g f0 f1 f2) (ho : d.R e W base ok v xs) (ht : e ≠ 84) : some g ≠ v.ownBlock := by
 obtain⟨A0,c0,hb,hg,hr0⟩:=h
 exact Kd.R_ne ho hb ht
theorem IsS84.apartQ {w0 W : World} {g : Nat} {f0 : List Int} {f1 : Int} {f2 : Int} {α : Type} {d : Kd α} {e : Nat} {base : Nat} {ok : Nat → Prop} {v : Value} {xs : List α} (h : IsS84 w0 W g f0 f1 f2) (ho : d.Q e W base ok v xs) (ht : ∀ q, q ∈ e :: d.E → q ≠ 84) : d.Q e W base (fun k => ok k ∧ k ≠ g) v xs := by
 obtain⟨A0,c0,hb,hg,hr0⟩:=h
 exact Kd.Q_types ho hb ht
theorem IsS84.own_neQ {w0 W : World} {g : Nat} {f0 : List Int} {f1 : Int} {f2 : Int} {α : Type} {d : Kd α} {e : Nat} {base : Nat} {ok : Nat → Prop} {v : Value} {xs : List α} (h : IsS84 w0 W g f0 f1 f2) (ho : d.Q e W base ok v xs) (ht : e ≠ 84) : some g ≠ v.ownBlock := by
 obtain⟨A0,c0,hb,hg,hr0⟩:=h
 exact Kd.Q_ne ho hb ht
theorem IsS84.apartS {w0 W : World} {g : Nat} {f0 : List Int} {f1 : Int} {f2 : Int} {α : Type} {d : Kd α} {e : Nat} {base : Nat} {ok : Nat → Prop} {v : Value} {xs : List α} (h : IsS84 w0 W g f0 f1 f2) (ho : d.S e W base ok v xs) (ht : ∀ q, q ∈ e :: d.E → q ≠ 84) : d.S e W base (fun k => ok k ∧ k ≠ g) v xs := by
 obtain⟨A0,c0,hb,hg,hr0⟩:=h
 exact Kd.S_types ho hb ht
theorem IsS84.own_neS {w0 W : World} {g : Nat} {f0 : List Int} {f1 : Int} {f2 : Int} {α : Type} {d : Kd α} {e : Nat} {base : Nat} {ok : Nat → Prop} {v : Value} {xs : List α} (h : IsS84 w0 W g f0 f1 f2) (ho : d.S e W base ok v xs) (ht : e ≠ 84) : some g ≠ v.ownBlock := by
 obtain⟨A0,c0,hb,hg,hr0⟩:=h
 exact Kd.S_ne ho hb ht
theorem IsS84.lt {w0 W : World} {g : Nat} {f0 : List Int} {f1 : Int} {f2 : Int} (h : IsS84 w0 W g f0 f1 f2) : g < W.heap.size := by
 obtain⟨A0,c0,hb,hg,hr0⟩:=h
 exact blk_lt hb
theorem IsS84.ge {w0 W : World} {g : Nat} {f0 : List Int} {f1 : Int} {f2 : Int} (h : IsS84 w0 W g f0 f1 f2) : w0.heap.size ≤ g := by
 obtain⟨A0,c0,hb,hg,hr0⟩:=h
 exact hg
theorem IsS84.ne_blk {w0 W : World} {g : Nat} {f0 : List Int} {f1 : Int} {f2 : Int} {a : Nat} {cs : Array Value} {t : TypeId} {fr : Nat × Nat} (h : IsS84 w0 W g f0 f1 f2) (hb2 : W.heap[a]? = some (.cells cs t fr)) (ht : t ≠ 84) : g ≠ a := by
 obtain⟨A0,c0,hb,hg,hr0⟩:=h
 rintro rfl
 rw [hb] at hb2
 injection hb2 with hb2
 injection hb2 with _ ht2
 exact ht ht2.symm
theorem IsS84.far {w0 W : World} {g : Nat} {f0 : List Int} {f1 : Int} {f2 : Int} {p : Addr} (h : IsS84 w0 W g f0 f1 f2) (hne : g ≠ p.block) (u : Value) : IsS84 w0 (W.setCell p u) g f0 f1 f2 := by
 obtain⟨A0,c0,hb,hg,hr0⟩:=h
 exact⟨A0,c0,blk_far hb hne u,hg,hr0⟩
theorem cellS84_0 {W : World} {g : Nat} {A0 : Option Addr} {c0 : Nat} {f0 : List Int} {f1 : Int} {f2 : Int} (h : W.heap[g]? = some (.cells #[.slice A0 f0.length c0, .int .i64 f1, .int .i64 f2] 84 (0, 0))) : W.cell? ⟨g, 0, none⟩ = some (.slice A0 f0.length c0) := (blk_cell h 0).trans rfl
theorem cellS84_1 {W : World} {g : Nat} {A0 : Option Addr} {c0 : Nat} {f0 : List Int} {f1 : Int} {f2 : Int} (h : W.heap[g]? = some (.cells #[.slice A0 f0.length c0, .int .i64 f1, .int .i64 f2] 84 (0, 0))) : W.cell? ⟨g, 1, none⟩ = some (.int .i64 f1) := (blk_cell h 1).trans rfl
theorem IsS84.set_1 {w0 W : World} {g : Nat} {f0 : List Int} {f1 : Int} {f2 : Int} (h : IsS84 w0 W g f0 f1 f2) (x : Int) : IsS84 w0 (W.setCell ⟨g, 1, none⟩ (.int .i64 x)) g f0 x f2 := by
 obtain⟨A0,c0,hb,hg,hr0⟩:=h
 exact⟨A0,c0,by simpa using blk_set hb 1 (.int .i64 x),hg,hr0⟩
theorem cellS84_2 {W : World} {g : Nat} {A0 : Option Addr} {c0 : Nat} {f0 : List Int} {f1 : Int} {f2 : Int} (h : W.heap[g]? = some (.cells #[.slice A0 f0.length c0, .int .i64 f1, .int .i64 f2] 84 (0, 0))) : W.cell? ⟨g, 2, none⟩ = some (.int .i64 f2) := (blk_cell h 2).trans rfl
theorem IsS84.set_2 {w0 W : World} {g : Nat} {f0 : List Int} {f1 : Int} {f2 : Int} (h : IsS84 w0 W g f0 f1 f2) (x : Int) : IsS84 w0 (W.setCell ⟨g, 2, none⟩ (.int .i64 x)) g f0 f1 x := by
 obtain⟨A0,c0,hb,hg,hr0⟩:=h
 exact⟨A0,c0,by simpa using blk_set hb 2 (.int .i64 x),hg,hr0⟩
theorem IsS84.new (w0 W : World) (A0 : Option Addr) (c0 : Nat) (f0 : List Int) (f1 : Int) (f2 : Int) (hB : Below w0.heap.size w0 W) (hr0 : Kd.C (Kd.int .u8) w0 A0 f0.length f0) : IsS84 w0 (W.alloc (.cells #[.slice A0 f0.length c0, .int .i64 f1, .int .i64 f2] 84)) W.heap.size f0 f1 f2 := ⟨A0, c0, by simpa using heap_alloc_new W _, hB.size, hr0⟩

/-! ### spec_l1New: function 62 -/
def spec_l1New.l0 : Nat → List Int → Int → Int → Option (List Int × Int × Int)
 | 0, _, _, _ => none
 | k + 1, x0, x3, x4 => if x4 < (x0.length : Int) then (if 0 ≤ x4 then (spec_l1New.l0 k x0 (Go.bits .and .i64 (wrap64 ((wrap64 ((wrap64 (x3 * 137)) + (wrap64 (rd x0 x4)))) + 11)) 1073741823) (wrap64 (x4 + 1))) else (none)) else (some (x0, 0, x3))
def spec_l1New.f (k : Nat) (l0 : List Int) : Option (List Int × Int × Int) := spec_l1New.l0 k l0 (wrap64 (60293 + (l0.length : Int))) 0
theorem spec_l1New.mono_l : ∀ k, (∀ y0 y1 y2, LeO (spec_l1New.l0 k y0 y1 y2) (spec_l1New.l0 (k + 1) y0 y1 y2))
 | 0 => fun _ _ _ r h => by simp [spec_l1New.l0] at h
 | k + 1 => by
  have ih0:=spec_l1New.mono_l k
  ·intro y0 y1 y2
   unfold spec_l1New.l0
   repeat' first
   | (with_reducible exact ih0 _ _ _)
   | (with_reducible exact LeO.refl _)
   | (with_reducible exact LeO.none _)
   | (with_reducible refine LeO.ite ?_ ?_)
   | (with_reducible refine LeO.bind ?_ (fun _ => ?_))
   | exact ih0 _ _ _
   | exact LeO.none _
   | refine LeO.ite ?_ ?_
   | refine LeO.bind ?_ (fun _ => ?_)
theorem spec_l1New.mono : ∀ a0 k, LeO (spec_l1New.f k a0) (spec_l1New.f (k + 1) a0) := by
 intro a0 k
 have ih0:=spec_l1New.mono_l k
 unfold spec_l1New.f
 repeat' first
   | (with_reducible exact ih0 _ _ _)
   | (with_reducible exact LeO.refl _)
   | (with_reducible exact LeO.none _)
   | (with_reducible refine LeO.ite ?_ ?_)
   | (with_reducible refine LeO.bind ?_ (fun _ => ?_))
   | exact ih0 _ _ _
   | exact LeO.none _
   | refine LeO.ite ?_ ?_
   | refine LeO.bind ?_ (fun _ => ?_)
set_option maxHeartbeats 8000000 in
set_option maxRecDepth 100000 in
theorem spec_l1New.calls (k : Nat) (A0 : Option Addr) (c0 : Nat) (l0 : List Int) (r1 : List Int) (r2 : Int) (r3 : Int) (w0 w : World) (hB : Below w0.heap.size w0 w) (hr0 : Kd.C (Kd.int .u8) w0 A0 l0.length l0) (hc0 : l0.length ≤ c0) (h : spec_l1New.f k l0 = some (r1, r2, r3)) :
  Calls Try.prog 62 #[.slice A0 l0.length c0] w fun e w'=>∃ g_:Nat,e=.returned (.pointer (some ⟨g_,0,none⟩))∧IsS84 w0 w' g_ r1 r2 r3∧Below w0.heap.size w0 w'∧Below w.heap.size w w':=by
 have hu84:=Try.underlying84
 have HR0:=Ka hr0
 have HC0:=Ka hc0
 clear hr0 hc0
 have HBW:=Ka (Below.refl w.heap.size w)
 have HW0:=Ka hB.size
 have HB:=Ka hB
 clear hB
 have H:(spec_l1New.l0 k l0 (wrap64 (60293+(l0.length:Int))) 0)=some (r1,r2,r3):=h
 clear h
 have H':=Ka H
 clear H
 go_enter Try.func62,Try.ntmps62
 go_wp2
 go_loopg [3,4] k (fun kq v3 v4 w'=>∃ (x3_1:Int) (qc:Int),v3=.int .i64 x3_1∧v4=.int .i64 qc∧Aside0 (spec_l1New.l0 kq l0 x3_1 qc=some (r1,r2,r3))∧Aside0 (kq≤k)∧Aside0 (Below w0.heap.size w0 w')∧Aside0 (Below w.heap.size w w'))
 case atStart=>exact⟨(wrap64 (60293+(l0.length:Int))),(0),(by first|rfl|(simp;done)|(simp [*];done)),(by first|rfl|(simp;done)|(simp [*];done)),H',⟨Nat.le_refl _⟩,⟨by repeat(first|(with_reducible first|exact HB.out|apply Kc|apply Kb|apply Ke)|exact HB.out)⟩,⟨by repeat(first|(with_reducible first|exact HBW.out|apply Kc|apply Kb|apply Ke)|exact HBW.out)⟩⟩
 case round=>
  clear H'
  obtain⟨x3_1,qc,rfl,rfl,HA,HK1,HB,HBW⟩:=hrel
  cases gk with
  | zero => exact absurd HA.out (by simp [spec_l1New.l0])
  | succ k1 =>
   have H:=HA.out
   clear HA
   simp only [spec_l1New.l0] at H
   by_cases c2:qc < (l0.length:Int)
   ·rw [if_pos c2] at H
    have c2b0:decide (qc < (l0.length:Int))=true:=decide_eq_true c2
    clear c2
    by_cases c3:0≤qc
    ·rw [if_pos c3] at H
     have c3b0:decide (0≤qc)=true:=decide_eq_true c3
     clear c3
     have H':=Ka H
     clear H
     have p273:0≤(qc:Int):=of_decide_eq_true (by first|(with_reducible assumption)|assumption)
     have q273:qc < (l0.length:Int):=of_decide_eq_true (by first|(with_reducible assumption)|assumption)
     obtain⟨ad273,e273,hx273_0⟩:=Kd.at_int HR0.out qc p273 q273
     cases e273
     replace hx273_0:=pw_cell_below HB.out hx273_0
     replace p273:=eq_true p273
     replace q273:=eq_true q273
     go_wp2
     go_roundg k1
     case measure=>have:=HK1.out;omega
     case rel=>exact⟨(Go.bits .and .i64 (wrap64 ((wrap64 ((wrap64 (x3_1*137))+(wrap64 (rd l0 qc))))+11)) 1073741823),(wrap64 (qc+1)),(by first|rfl|(simp;done)|(simp [*];done)),(by first|rfl|(simp;done)|(simp [*];done)),H',⟨by have:=HK1.out;omega⟩,⟨by repeat(first|(with_reducible first|exact HB.out|apply Kc|apply Kb|apply Ke)|exact HB.out)⟩,⟨by repeat(first|(with_reducible first|exact HBW.out|apply Kc|apply Kb|apply Ke)|exact HBW.out)⟩⟩
    ·rw [if_neg c3] at H
     exact absurd H (by simp)
   ·rw [if_neg c2] at H
    have c2b0:decide (qc < (l0.length:Int))=false:=decide_eq_false c2
    clear c2
    simp only [Option.some.injEq,Prod.mk.injEq] at H
    obtain⟨rfl,rfl,rfl⟩:=H
    go_wp2_with (first|((with_reducible refine gate_dst (N:=27) rfl ?_);refine box_event ?hg (N:=27) ?hd (cs:=#[.slice A0 l0.length c0,.int .i64 0,.int .i64 x3_1]) (t:=84) ?hr ?_;(case hd=>rfl);(case hg=>rfl);(case hr=>first|(go_simp;done)|(go_simp;rfl));intro gb274 hg w4 hbox hb;have qe:=Ka (below_step HBW.out hb);have qf:=Ka (below_step (by repeat(first|(with_reducible first|exact HB.out|apply Kc|apply Kb|apply Ke)|exact HB.out)) hb);have qg:=Ka (hbox);have n3_:=Ka ((by rw [hg];exact(below_size (by repeat(first|(with_reducible first|exact HBW.out|apply Kc|apply Kb|apply Ke)|exact HBW.out))):w.heap.size≤gb274));have n4_:=Ka ((Nat.le_trans HW0.out (by rw [hg];exact(below_size (by repeat(first|(with_reducible first|exact HBW.out|apply Kc|apply Kb|apply Ke)|exact HBW.out))):w.heap.size≤gb274):w0.heap.size≤gb274));clear HBW;clear HB;have HBW:=qe;have HB:=qf;have BK274:=qg;have GW274:=n3_;have GE274:=n4_;clear qe qf qg n3_ n4_;clear hb hbox hg))
    go_ret
    exact⟨_,rfl,(show IsS84 w0 _ gb274 l0 0 x3_1 from⟨_,_,by(with_reducible repeat(first|refine blk_drewN ?_ _|refine blk_drew ?_|refine blk_alloc ?_ _));exact BK274.out,GE274.out,HR0.out⟩),by repeat(first|(with_reducible first|exact HB.out|apply Kc|apply Kb|apply Ke|refine below_set ?_ GE274.out)|exact HB.out),by repeat(first|(with_reducible first|exact HBW.out|apply Kc|apply Kb|apply Ke|refine below_set ?_ GW274.out)|exact HBW.out)⟩

/-! ### spec_l1Byte: function 82 -/
def spec_l1Byte.f (s0_0 : List Int) (s0_1 : Int) (s0_2 : Int) : Option (Int × Int × Int) := if s0_1 < (s0_0.length : Int) then (if 0 ≤ s0_1 then (some (Go.bits .and .i64 (wrap64 ((Go.bits .and .i64 (Go.bits .xor .i64 ((wrap64 ((wrap64 (s0_2 * 6364136223846793005)) + 1442695040888963407)) / 8589934592) ((wrap64 ((wrap64 (s0_2 * 6364136223846793005)) + 1442695040888963407)) / 35184372088832)) 255) + (wrap64 (rd s0_0 s0_1)))) 255, wrap64 (s0_1 + 1), wrap64 ((wrap64 (s0_2 * 6364136223846793005)) + 1442695040888963407))) else (none)) else (some (Go.bits .and .i64 (Go.bits .xor .i64 ((wrap64 ((wrap64 (s0_2 * 6364136223846793005)) + 1442695040888963407)) / 8589934592) ((wrap64 ((wrap64 (s0_2 * 6364136223846793005)) + 1442695040888963407)) / 35184372088832)) 255, s0_1, wrap64 ((wrap64 (s0_2 * 6364136223846793005)) + 1442695040888963407)))
set_option maxHeartbeats 8000000 in
set_option maxRecDepth 100000 in
theorem spec_l1Byte.calls (g : Nat) (s0_0 : List Int) (s0_1 : Int) (s0_2 : Int) (r1 : Int) (r2 : Int) (r3 : Int) (w0 w : World) (hI : IsS84 w0 w g s0_0 s0_1 s0_2) (hB : Below w0.heap.size w0 w) (h : spec_l1Byte.f s0_0 s0_1 s0_2 = some (r1, r2, r3)) :
  Calls Try.prog 82 #[.pointer (some ⟨g,0,none⟩)] w fun e w'=>e=.returned (.int .i64 r1)∧IsS84 w0 w' g s0_0 r2 r3∧Below w0.heap.size w0 w'∧KeepBut w w' g none:=by
 have qa:=Ka hI
 have HK:=Ka (KeepBut.refl w g none)
 have HL:=Ka hB.size
 clear hI
 have HW0:=Ka hB.size
 have HB:=Ka hB
 clear hB
 have H:(if s0_1 < (s0_0.length:Int) then (if 0≤s0_1 then (some (Go.bits .and .i64 (wrap64 ((Go.bits .and .i64 (Go.bits .xor .i64 ((wrap64 ((wrap64 (s0_2*6364136223846793005))+1442695040888963407)) / 8589934592) ((wrap64 ((wrap64 (s0_2*6364136223846793005))+1442695040888963407)) / 35184372088832)) 255)+(wrap64 (rd s0_0 s0_1)))) 255,wrap64 (s0_1+1),wrap64 ((wrap64 (s0_2*6364136223846793005))+1442695040888963407))) else (none)) else (some (Go.bits .and .i64 (Go.bits .xor .i64 ((wrap64 ((wrap64 (s0_2*6364136223846793005))+1442695040888963407)) / 8589934592) ((wrap64 ((wrap64 (s0_2*6364136223846793005))+1442695040888963407)) / 35184372088832)) 255,s0_1,wrap64 ((wrap64 (s0_2*6364136223846793005))+1442695040888963407))))=some (r1,r2,r3):=h
 clear h
 by_cases c2:s0_1 < (s0_0.length:Int)
 ·rw [if_pos c2] at H
  have c2b0:decide (s0_1 < (s0_0.length:Int))=true:=decide_eq_true c2
  clear c2
  by_cases c3:0≤s0_1
  ·rw [if_pos c3] at H
   have c3b0:decide (0≤s0_1)=true:=decide_eq_true c3
   clear c3
   simp only [Option.some.injEq,Prod.mk.injEq] at H
   obtain⟨rfl,rfl,rfl⟩:=H
   obtain⟨ASz4_0,cSz4_0,HGz4,hgz4,HSz4_0⟩:=qa.out
   have hcz4_0:=cellS84_0 HGz4
   have hcz4_1:=cellS84_1 HGz4
   have hcz4_2:=cellS84_2 HGz4
   have hfz4_1:=blk_frozen HGz4 1
   have hfz4_2:=blk_frozen HGz4 2
   clear HGz4 hgz4
   have p275:0≤(s0_1:Int):=of_decide_eq_true (by first|(with_reducible assumption)|assumption)
   have q275:s0_1 < (s0_0.length:Int):=of_decide_eq_true (by first|(with_reducible assumption)|assumption)
   obtain⟨ad275,e275,qb⟩:=Kd.at_int HSz4_0 s0_1 p275 q275
   cases e275
   have qd:ad275.block≠g:=Nat.ne_of_lt (Nat.lt_of_lt_of_le (by have:=World.block_lt_of_cell? _ _ qb;first|rwa [add_block] at this|exact this) (IsS84.ge qa.out))
   replace qb:=pw_cell_below HB.out qb
   replace qb:=(cell_far (p:=⟨g,2,none⟩) (by first|(rw [add_block];exact qd)|(show(Addr.add _ _).block≠_;rw [add_block];exact qd)|exact qd) (.int .i64 (wrap64 ((wrap64 (s0_2*6364136223846793005))+1442695040888963407)))).trans qb
   (try have hy275_0:=fun (n_:Nat)=>(show(((w.drewN n_).setCell ⟨g,2,none⟩ (.int .i64 (wrap64 ((wrap64 (s0_2*6364136223846793005))+1442695040888963407))))).cell? _=some _ from qb))
   clear qd
   replace p275:=eq_true p275
   replace q275:=eq_true q275
   go_enter Try.func82,Try.ntmps82
   go_wp2
   repeat(go_quiet (fail);try go_wp2)
   go_ret
   exact⟨by first|rfl|(simp [errW_none,errW_some] <;> rfl)|(simp [*,errW_none,errW_some] <;> rfl),by repeat(first|(with_reducible first|exact qa.out|apply IsS84.alloc|apply IsS84.drewN|apply IsS84.drew|apply IsS84.set_1|apply IsS84.set_2)|exact qa.out),by repeat(first|(with_reducible first|exact HB.out|apply Kc|apply Kb|apply Ke|refine below_set ?_ (IsS84.ge qa.out))|exact HB.out),by repeat(first|(with_reducible first|exact HK.out|apply Kf|apply keep_drewN|apply keep_drew|apply keep_alloc)|exact HK.out)⟩
  ·rw [if_neg c3] at H
   exact absurd H (by simp)
 ·rw [if_neg c2] at H
  have c2b0:decide (s0_1 < (s0_0.length:Int))=false:=decide_eq_false c2
  clear c2
  simp only [Option.some.injEq,Prod.mk.injEq] at H
  obtain⟨rfl,rfl,rfl⟩:=H
  obtain⟨ASz5_0,cSz5_0,HGz5,hgz5,HSz5_0⟩:=qa.out
  have hcz5_0:=cellS84_0 HGz5
  have hcz5_1:=cellS84_1 HGz5
  have hcz5_2:=cellS84_2 HGz5
  have hfz5_1:=blk_frozen HGz5 1
  have hfz5_2:=blk_frozen HGz5 2
  clear HGz5 hgz5
  go_enter Try.func82,Try.ntmps82
  go_wp2
  repeat(go_quiet (fail);try go_wp2)
  go_ret
  exact⟨by first|rfl|(simp [errW_none,errW_some] <;> rfl)|(simp [*,errW_none,errW_some] <;> rfl),by repeat(first|(with_reducible first|exact qa.out|apply IsS84.alloc|apply IsS84.drewN|apply IsS84.drew|apply IsS84.set_1|apply IsS84.set_2)|exact qa.out),by repeat(first|(with_reducible first|exact HB.out|apply Kc|apply Kb|apply Ke|refine below_set ?_ (IsS84.ge qa.out))|exact HB.out),by repeat(first|(with_reducible first|exact HK.out|apply Kf|apply keep_drewN|apply keep_drew|apply keep_alloc)|exact HK.out)⟩

/-! ### spec_l1Below: function 65 -/
def spec_l1Below.f (s0_0 : List Int) (s0_1 : Int) (s0_2 : Int) (a1 : Int) : Option (Int × Int × Int) := if a1 ≤ 0 then (some (0, s0_1, s0_2)) else (if a1 ≤ 256 then ((spec_l1Byte.f s0_0 s0_1 s0_2).bind fun bt276 => (if a1 = 0 then (none) else (some (Int.tmod bt276.1 a1, bt276.2.1, bt276.2.2)))) else ((spec_l1Byte.f s0_0 s0_1 s0_2).bind fun bt279 => ((spec_l1Byte.f s0_0 bt279.2.1 bt279.2.2).bind fun bt282 => ((spec_l1Byte.f s0_0 bt282.2.1 bt282.2.2).bind fun bt285 => ((spec_l1Byte.f s0_0 bt285.2.1 bt285.2.2).bind fun bt288 => (if a1 = 0 then (none) else (some (Int.tmod (wrap64 ((wrap64 ((wrap64 ((wrap64 (bt279.1 * 16777216)) + (wrap64 (bt282.1 * 65536)))) + (wrap64 (bt285.1 * 256)))) + bt288.1)) a1, bt288.2.1, bt288.2.2))))))))
set_option maxHeartbeats 8000000 in
set_option maxRecDepth 100000 in
theorem spec_l1Below.calls (g : Nat) (s0_0 : List Int) (s0_1 : Int) (s0_2 : Int) (a1 : Int) (r1 : Int) (r2 : Int) (r3 : Int) (w0 w : World) (hI : IsS84 w0 w g s0_0 s0_1 s0_2) (hB : Below w0.heap.size w0 w) (h : spec_l1Below.f s0_0 s0_1 s0_2 a1 = some (r1, r2, r3)) :
  Calls Try.prog 65 #[.pointer (some ⟨g,0,none⟩),.int .i64 a1] w fun e w'=>e=.returned (.int .i64 r1)∧IsS84 w0 w' g s0_0 r2 r3∧Below w0.heap.size w0 w'∧KeepBut w w' g none:=by
 have qa:=Ka hI
 have HK:=Ka (KeepBut.refl w g none)
 have HL:=Ka hB.size
 clear hI
 have HW0:=Ka hB.size
 have HB:=Ka hB
 clear hB
 have H:(if a1≤0 then (some (0,s0_1,s0_2)) else (if a1≤256 then ((spec_l1Byte.f s0_0 s0_1 s0_2).bind fun bt276=>(if a1=0 then (none) else (some (Int.tmod bt276.1 a1,bt276.2.1,bt276.2.2)))) else ((spec_l1Byte.f s0_0 s0_1 s0_2).bind fun bt279=>((spec_l1Byte.f s0_0 bt279.2.1 bt279.2.2).bind fun bt282=>((spec_l1Byte.f s0_0 bt282.2.1 bt282.2.2).bind fun bt285=>((spec_l1Byte.f s0_0 bt285.2.1 bt285.2.2).bind fun bt288=>(if a1=0 then (none) else (some (Int.tmod (wrap64 ((wrap64 ((wrap64 ((wrap64 (bt279.1*16777216))+(wrap64 (bt282.1*65536))))+(wrap64 (bt285.1*256))))+bt288.1)) a1,bt288.2.1,bt288.2.2)))))))))=some (r1,r2,r3):=h
 clear h
 by_cases c3:a1≤0
 ·rw [if_pos c3] at H
  have c3b0:decide (a1≤0)=true:=decide_eq_true c3
  clear c3
  simp only [Option.some.injEq,Prod.mk.injEq] at H
  obtain⟨rfl,rfl,rfl⟩:=H
  go_enter Try.func65,Try.ntmps65
  go_wp2
  go_ret
  exact⟨by first|rfl|(simp [errW_none,errW_some] <;> rfl)|(simp [*,errW_none,errW_some] <;> rfl),by repeat(first|(with_reducible first|exact qa.out|apply IsS84.alloc|apply IsS84.drewN|apply IsS84.drew|apply IsS84.set_1|apply IsS84.set_2)|exact qa.out),by repeat(first|(with_reducible first|exact HB.out|apply Kc|apply Kb|apply Ke|refine below_set ?_ (IsS84.ge qa.out))|exact HB.out),by repeat(first|(with_reducible first|exact HK.out|apply Kf|apply keep_drewN|apply keep_drew|apply keep_alloc)|exact HK.out)⟩
 ·rw [if_neg c3] at H
  have c3b0:decide (a1≤0)=false:=decide_eq_false c3
  clear c3
  by_cases c4:a1≤256
  ·rw [if_pos c4] at H
   have c4b0:decide (a1≤256)=true:=decide_eq_true c4
   clear c4
   replace H:=Option.bind_eq_some_iff.mp H
   obtain⟨⟨t276,t277,t278⟩,A50,H⟩:=H
   replace H:(if a1=0 then (none) else (some (Int.tmod t276 a1,t277,t278)))=some (r1,r2,r3):=H
   have A5:=Ka A50
   clear A50
   by_cases c6:a1=0
   ·rw [if_pos c6] at H
    exact absurd H (by simp)
   ·rw [if_neg c6] at H
    have c6b0:(a1 == 0)=false:=beq_eq_false_iff_ne.mpr c6
    have c6b1:(a1 != 0)=true:=bne_iff_ne.mpr c6
    simp only [Option.some.injEq,Prod.mk.injEq] at H
    obtain⟨rfl,rfl,rfl⟩:=H
    go_enter Try.func65,Try.ntmps65
    go_wp2_with (first|((with_reducible refine gate_callee (f:=82) rfl ?_);refine goesL_ (some 14) rfl rfl Try.func82 (by kernel_rfl) rfl #[.pointer (some ⟨g,0,none⟩)] rfl (by(try simp only [List.map_toArray,List.map_cons,List.map_nil]);first|done|rfl|(simp only [List.length_drop,List.length_take];rfl)) ?_;(with_reducible refine(spec_l1Byte.calls g s0_0 s0_1 s0_2 t276 t277 t278 w0 _ ?side1 ?side2 A5.out).mono ?_);(case side1=>repeat(first|(with_reducible first|exact qa.out|apply IsS84.alloc|apply IsS84.drewN|apply IsS84.drew|apply IsS84.set_1|apply IsS84.set_2)|exact qa.out));(case side2=>repeat(first|(with_reducible first|exact HB.out|apply Kc|apply Kb|apply Ke|refine below_set ?_ (IsS84.ge qa.out))|exact HB.out));rintro e w7 ⟨rfl,hi,hb,hk⟩;refine⟨_,rfl,?_⟩;have qe:=Ka (KeepBut.trans (by repeat(first|(with_reducible first|exact HK.out|apply Kf|apply keep_drewN|apply keep_drew|apply keep_alloc)|exact HK.out)) hk (.inl rfl));have qf:=Ka (hb);have qg:=Ka (hi);clear HK;clear HB;clear qa;have HK:=qe;have HB:=qf;have qa:=qg;clear qe qf qg;(try clear hb);(try clear hb2);(try clear hk);(try clear hi)))
    go_ret
    exact⟨by first|rfl|(simp [errW_none,errW_some] <;> rfl)|(simp [*,errW_none,errW_some] <;> rfl),by repeat(first|(with_reducible first|exact qa.out|apply IsS84.alloc|apply IsS84.drewN|apply IsS84.drew|apply IsS84.set_1|apply IsS84.set_2)|exact qa.out),by repeat(first|(with_reducible first|exact HB.out|apply Kc|apply Kb|apply Ke|refine below_set ?_ (IsS84.ge qa.out))|exact HB.out),by repeat(first|(with_reducible first|exact HK.out|apply Kf|apply keep_drewN|apply keep_drew|apply keep_alloc)|exact HK.out)⟩
  ·rw [if_neg c4] at H
   have c4b0:decide (a1≤256)=false:=decide_eq_false c4
   clear c4
   replace H:=Option.bind_eq_some_iff.mp H
   obtain⟨⟨t279,t280,t281⟩,A80,H⟩:=H
   replace H:((spec_l1Byte.f s0_0 t280 t281).bind fun bt282=>((spec_l1Byte.f s0_0 bt282.2.1 bt282.2.2).bind fun bt285=>((spec_l1Byte.f s0_0 bt285.2.1 bt285.2.2).bind fun bt288=>(if a1=0 then (none) else (some (Int.tmod (wrap64 ((wrap64 ((wrap64 ((wrap64 (t279*16777216))+(wrap64 (bt282.1*65536))))+(wrap64 (bt285.1*256))))+bt288.1)) a1,bt288.2.1,bt288.2.2))))))=some (r1,r2,r3):=H
   have A8:=Ka A80
   clear A80
   replace H:=Option.bind_eq_some_iff.mp H
   obtain⟨⟨t282,t283,t284⟩,A90,H⟩:=H
   replace H:((spec_l1Byte.f s0_0 t283 t284).bind fun bt285=>((spec_l1Byte.f s0_0 bt285.2.1 bt285.2.2).bind fun bt288=>(if a1=0 then (none) else (some (Int.tmod (wrap64 ((wrap64 ((wrap64 ((wrap64 (t279*16777216))+(wrap64 (t282*65536))))+(wrap64 (bt285.1*256))))+bt288.1)) a1,bt288.2.1,bt288.2.2)))))=some (r1,r2,r3):=H
   have A9:=Ka A90
   clear A90
   replace H:=Option.bind_eq_some_iff.mp H
   obtain⟨⟨t285,t286,t287⟩,A100,H⟩:=H
   replace H:((spec_l1Byte.f s0_0 t286 t287).bind fun bt288=>(if a1=0 then (none) else (some (Int.tmod (wrap64 ((wrap64 ((wrap64 ((wrap64 (t279*16777216))+(wrap64 (t282*65536))))+(wrap64 (t285*256))))+bt288.1)) a1,bt288.2.1,bt288.2.2))))=some (r1,r2,r3):=H
   have A10:=Ka A100
   clear A100
   replace H:=Option.bind_eq_some_iff.mp H
   obtain⟨⟨t288,t289,t290⟩,A110,H⟩:=H
   replace H:(if a1=0 then (none) else (some (Int.tmod (wrap64 ((wrap64 ((wrap64 ((wrap64 (t279*16777216))+(wrap64 (t282*65536))))+(wrap64 (t285*256))))+t288)) a1,t289,t290)))=some (r1,r2,r3):=H
   have A11:=Ka A110
   clear A110
   by_cases c12:a1=0
   ·rw [if_pos c12] at H
    exact absurd H (by simp)
   ·rw [if_neg c12] at H
    have c12b0:(a1 == 0)=false:=beq_eq_false_iff_ne.mpr c12
    have c12b1:(a1 != 0)=true:=bne_iff_ne.mpr c12
    simp only [Option.some.injEq,Prod.mk.injEq] at H
    obtain⟨rfl,rfl,rfl⟩:=H
    go_enter Try.func65,Try.ntmps65
    go_wp2_with (first|((with_reducible refine gate_callee (f:=82) rfl ?_);refine goesL_ (some 18) rfl rfl Try.func82 (by kernel_rfl) rfl #[.pointer (some ⟨g,0,none⟩)] rfl (by(try simp only [List.map_toArray,List.map_cons,List.map_nil]);first|done|rfl|(simp only [List.length_drop,List.length_take];rfl)) ?_;(with_reducible refine(spec_l1Byte.calls g s0_0 s0_1 s0_2 t279 t280 t281 w0 _ ?side1 ?side2 A8.out).mono ?_);(case side1=>repeat(first|(with_reducible first|exact qa.out|apply IsS84.alloc|apply IsS84.drewN|apply IsS84.drew|apply IsS84.set_1|apply IsS84.set_2)|exact qa.out));(case side2=>repeat(first|(with_reducible first|exact HB.out|apply Kc|apply Kb|apply Ke|refine below_set ?_ (IsS84.ge qa.out))|exact HB.out));rintro e w13 ⟨rfl,hi,hb,hk⟩;refine⟨_,rfl,?_⟩;have qe:=Ka (KeepBut.trans (by repeat(first|(with_reducible first|exact HK.out|apply Kf|apply keep_drewN|apply keep_drew|apply keep_alloc)|exact HK.out)) hk (.inl rfl));have qf:=Ka (hb);have qg:=Ka (hi);clear HK;clear HB;clear qa;have HK:=qe;have HB:=qf;have qa:=qg;clear qe qf qg;(try clear hb);(try clear hb2);(try clear hk);(try clear hi))|((with_reducible refine gate_callee (f:=82) rfl ?_);refine goesL_ (some 20) rfl rfl Try.func82 (by kernel_rfl) rfl #[.pointer (some ⟨g,0,none⟩)] rfl (by(try simp only [List.map_toArray,List.map_cons,List.map_nil]);first|done|rfl|(simp only [List.length_drop,List.length_take];rfl)) ?_;(with_reducible refine(spec_l1Byte.calls g s0_0 t280 t281 t282 t283 t284 w0 _ ?side1 ?side2 A9.out).mono ?_);(case side1=>repeat(first|(with_reducible first|exact qa.out|apply IsS84.alloc|apply IsS84.drewN|apply IsS84.drew|apply IsS84.set_1|apply IsS84.set_2)|exact qa.out));(case side2=>repeat(first|(with_reducible first|exact HB.out|apply Kc|apply Kb|apply Ke|refine below_set ?_ (IsS84.ge qa.out))|exact HB.out));rintro e w14 ⟨rfl,hi,hb,hk⟩;refine⟨_,rfl,?_⟩;have qe:=Ka (KeepBut.trans (by repeat(first|(with_reducible first|exact HK.out|apply Kf|apply keep_drewN|apply keep_drew|apply keep_alloc)|exact HK.out)) hk (.inl rfl));have qf:=Ka (hb);have qg:=Ka (hi);clear HK;clear HB;clear qa;have HK:=qe;have HB:=qf;have qa:=qg;clear qe qf qg;(try clear hb);(try clear hb2);(try clear hk);(try clear hi))|((with_reducible refine gate_callee (f:=82) rfl ?_);refine goesL_ (some 22) rfl rfl Try.func82 (by kernel_rfl) rfl #[.pointer (some ⟨g,0,none⟩)] rfl (by(try simp only [List.map_toArray,List.map_cons,List.map_nil]);first|done|rfl|(simp only [List.length_drop,List.length_take];rfl)) ?_;(with_reducible refine(spec_l1Byte.calls g s0_0 t283 t284 t285 t286 t287 w0 _ ?side1 ?side2 A10.out).mono ?_);(case side1=>repeat(first|(with_reducible first|exact qa.out|apply IsS84.alloc|apply IsS84.drewN|apply IsS84.drew|apply IsS84.set_1|apply IsS84.set_2)|exact qa.out));(case side2=>repeat(first|(with_reducible first|exact HB.out|apply Kc|apply Kb|apply Ke|refine below_set ?_ (IsS84.ge qa.out))|exact HB.out));rintro e w15 ⟨rfl,hi,hb,hk⟩;refine⟨_,rfl,?_⟩;have qe:=Ka (KeepBut.trans (by repeat(first|(with_reducible first|exact HK.out|apply Kf|apply keep_drewN|apply keep_drew|apply keep_alloc)|exact HK.out)) hk (.inl rfl));have qf:=Ka (hb);have qg:=Ka (hi);clear HK;clear HB;clear qa;have HK:=qe;have HB:=qf;have qa:=qg;clear qe qf qg;(try clear hb);(try clear hb2);(try clear hk);(try clear hi))|((with_reducible refine gate_callee (f:=82) rfl ?_);refine goesL_ (some 24) rfl rfl Try.func82 (by kernel_rfl) rfl #[.pointer (some ⟨g,0,none⟩)] rfl (by(try simp only [List.map_toArray,List.map_cons,List.map_nil]);first|done|rfl|(simp only [List.length_drop,List.length_take];rfl)) ?_;(with_reducible refine(spec_l1Byte.calls g s0_0 t286 t287 t288 t289 t290 w0 _ ?side1 ?side2 A11.out).mono ?_);(case side1=>repeat(first|(with_reducible first|exact qa.out|apply IsS84.alloc|apply IsS84.drewN|apply IsS84.drew|apply IsS84.set_1|apply IsS84.set_2)|exact qa.out));(case side2=>repeat(first|(with_reducible first|exact HB.out|apply Kc|apply Kb|apply Ke|refine below_set ?_ (IsS84.ge qa.out))|exact HB.out));rintro e w16 ⟨rfl,hi,hb,hk⟩;refine⟨_,rfl,?_⟩;have qe:=Ka (KeepBut.trans (by repeat(first|(with_reducible first|exact HK.out|apply Kf|apply keep_drewN|apply keep_drew|apply keep_alloc)|exact HK.out)) hk (.inl rfl));have qf:=Ka (hb);have qg:=Ka (hi);clear HK;clear HB;clear qa;have HK:=qe;have HB:=qf;have qa:=qg;clear qe qf qg;(try clear hb);(try clear hb2);(try clear hk);(try clear hi)))
    go_ret
    exact⟨by first|rfl|(simp [errW_none,errW_some] <;> rfl)|(simp [*,errW_none,errW_some] <;> rfl),by repeat(first|(with_reducible first|exact qa.out|apply IsS84.alloc|apply IsS84.drewN|apply IsS84.drew|apply IsS84.set_1|apply IsS84.set_2)|exact qa.out),by repeat(first|(with_reducible first|exact HB.out|apply Kc|apply Kb|apply Ke|refine below_set ?_ (IsS84.ge qa.out))|exact HB.out),by repeat(first|(with_reducible first|exact HK.out|apply Kf|apply keep_drewN|apply keep_drew|apply keep_alloc)|exact HK.out)⟩

/-! ### spec_l1From: function 63 -/
def spec_l1From.f (s0_0 : List Int) (s0_1 : Int) (s0_2 : Int) (a1 : Int) (a2 : Int) : Option (Int × Int × Int) := (spec_l1Below.f s0_0 s0_1 s0_2 (wrap64 ((wrap64 (a2 - a1)) + 1))).bind fun bt291 => (some (wrap64 (a1 + bt291.1), bt291.2.1, bt291.2.2))
set_option maxHeartbeats 8000000 in
set_option maxRecDepth 100000 in
theorem spec_l1From.calls (g : Nat) (s0_0 : List Int) (s0_1 : Int) (s0_2 : Int) (a1 : Int) (a2 : Int) (r1 : Int) (r2 : Int) (r3 : Int) (w0 w : World) (hI : IsS84 w0 w g s0_0 s0_1 s0_2) (hB : Below w0.heap.size w0 w) (h : spec_l1From.f s0_0 s0_1 s0_2 a1 a2 = some (r1, r2, r3)) :
  Calls Try.prog 63 #[.pointer (some ⟨g,0,none⟩),.int .i64 a1,.int .i64 a2] w fun e w'=>e=.returned (.int .i64 r1)∧IsS84 w0 w' g s0_0 r2 r3∧Below w0.heap.size w0 w'∧KeepBut w w' g none:=by
 have qa:=Ka hI
 have HK:=Ka (KeepBut.refl w g none)
 have HL:=Ka hB.size
 clear hI
 have HW0:=Ka hB.size
 have HB:=Ka hB
 clear hB
 have H:((spec_l1Below.f s0_0 s0_1 s0_2 (wrap64 ((wrap64 (a2 - a1))+1))).bind fun bt291=>(some (wrap64 (a1+bt291.1),bt291.2.1,bt291.2.2)))=some (r1,r2,r3):=h
 clear h
 replace H:=Option.bind_eq_some_iff.mp H
 obtain⟨⟨t291,t292,t293⟩,A40,H⟩:=H
 replace H:(some (wrap64 (a1+t291),t292,t293))=some (r1,r2,r3):=H
 have A4:=Ka A40
 clear A40
 simp only [Option.some.injEq,Prod.mk.injEq] at H
 obtain⟨rfl,rfl,rfl⟩:=H
 go_enter Try.func63,Try.ntmps63
 go_wp2_with (first|((with_reducible refine gate_callee (f:=65) rfl ?_);refine goesL_ (some 13) rfl rfl Try.func65 (by kernel_rfl) rfl #[.pointer (some ⟨g,0,none⟩),.int .i64 (wrap64 ((wrap64 (a2 - a1))+1))] rfl (by(try simp only [List.map_toArray,List.map_cons,List.map_nil]);first|done|rfl|(simp only [List.length_drop,List.length_take];rfl)) ?_;(with_reducible refine(spec_l1Below.calls g s0_0 s0_1 s0_2 (wrap64 ((wrap64 (a2 - a1))+1)) t291 t292 t293 w0 _ ?side1 ?side2 A4.out).mono ?_);(case side1=>repeat(first|(with_reducible first|exact qa.out|apply IsS84.alloc|apply IsS84.drewN|apply IsS84.drew|apply IsS84.set_1|apply IsS84.set_2)|exact qa.out));(case side2=>repeat(first|(with_reducible first|exact HB.out|apply Kc|apply Kb|apply Ke|refine below_set ?_ (IsS84.ge qa.out))|exact HB.out));rintro e w5 ⟨rfl,hi,hb,hk⟩;refine⟨_,rfl,?_⟩;have qe:=Ka (KeepBut.trans (by repeat(first|(with_reducible first|exact HK.out|apply Kf|apply keep_drewN|apply keep_drew|apply keep_alloc)|exact HK.out)) hk (.inl rfl));have qf:=Ka (hb);have qg:=Ka (hi);clear HK;clear HB;clear qa;have HK:=qe;have HB:=qf;have qa:=qg;clear qe qf qg;(try clear hb);(try clear hb2);(try clear hk);(try clear hi)))
 go_ret
 exact⟨by first|rfl|(simp [errW_none,errW_some] <;> rfl)|(simp [*,errW_none,errW_some] <;> rfl),by repeat(first|(with_reducible first|exact qa.out|apply IsS84.alloc|apply IsS84.drewN|apply IsS84.drew|apply IsS84.set_1|apply IsS84.set_2)|exact qa.out),by repeat(first|(with_reducible first|exact HB.out|apply Kc|apply Kb|apply Ke|refine below_set ?_ (IsS84.ge qa.out))|exact HB.out),by repeat(first|(with_reducible first|exact HK.out|apply Kf|apply keep_drewN|apply keep_drew|apply keep_alloc)|exact HK.out)⟩

/-! ### spec_l1Once: function 64 -/
def spec_l1Once.f (s0_0 : List Int) (s0_1 : Int) (s0_2 : Int) (a1 : Int) : Option (Bool × Int × Int) := (spec_l1Below.f s0_0 s0_1 s0_2 a1).bind fun bt294 => (some ((bt294.1 == 0), bt294.2.1, bt294.2.2))
set_option maxHeartbeats 8000000 in
set_option maxRecDepth 100000 in
theorem spec_l1Once.calls (g : Nat) (s0_0 : List Int) (s0_1 : Int) (s0_2 : Int) (a1 : Int) (r1 : Bool) (r2 : Int) (r3 : Int) (w0 w : World) (hI : IsS84 w0 w g s0_0 s0_1 s0_2) (hB : Below w0.heap.size w0 w) (h : spec_l1Once.f s0_0 s0_1 s0_2 a1 = some (r1, r2, r3)) :
  Calls Try.prog 64 #[.pointer (some ⟨g,0,none⟩),.int .i64 a1] w fun e w'=>e=.returned (.bool r1)∧IsS84 w0 w' g s0_0 r2 r3∧Below w0.heap.size w0 w'∧KeepBut w w' g none:=by
 have qa:=Ka hI
 have HK:=Ka (KeepBut.refl w g none)
 have HL:=Ka hB.size
 clear hI
 have HW0:=Ka hB.size
 have HB:=Ka hB
 clear hB
 have H:((spec_l1Below.f s0_0 s0_1 s0_2 a1).bind fun bt294=>(some ((bt294.1 == 0),bt294.2.1,bt294.2.2)))=some (r1,r2,r3):=h
 clear h
 replace H:=Option.bind_eq_some_iff.mp H
 obtain⟨⟨t294,t295,t296⟩,A30,H⟩:=H
 replace H:(some ((t294 == 0),t295,t296))=some (r1,r2,r3):=H
 have A3:=Ka A30
 clear A30
 simp only [Option.some.injEq,Prod.mk.injEq] at H
 obtain⟨rfl,rfl,rfl⟩:=H
 go_enter Try.func64,Try.ntmps64
 go_wp2_with (first|((with_reducible refine gate_callee (f:=65) rfl ?_);refine goesL_ (some 7) rfl rfl Try.func65 (by kernel_rfl) rfl #[.pointer (some ⟨g,0,none⟩),.int .i64 a1] rfl (by(try simp only [List.map_toArray,List.map_cons,List.map_nil]);first|done|rfl|(simp only [List.length_drop,List.length_take];rfl)) ?_;(with_reducible refine(spec_l1Below.calls g s0_0 s0_1 s0_2 a1 t294 t295 t296 w0 _ ?side1 ?side2 A3.out).mono ?_);(case side1=>repeat(first|(with_reducible first|exact qa.out|apply IsS84.alloc|apply IsS84.drewN|apply IsS84.drew|apply IsS84.set_1|apply IsS84.set_2)|exact qa.out));(case side2=>repeat(first|(with_reducible first|exact HB.out|apply Kc|apply Kb|apply Ke|refine below_set ?_ (IsS84.ge qa.out))|exact HB.out));rintro e w4 ⟨rfl,hi,hb,hk⟩;refine⟨_,rfl,?_⟩;have qe:=Ka (KeepBut.trans (by repeat(first|(with_reducible first|exact HK.out|apply Kf|apply keep_drewN|apply keep_drew|apply keep_alloc)|exact HK.out)) hk (.inl rfl));have qf:=Ka (hb);have qg:=Ka (hi);clear HK;clear HB;clear qa;have HK:=qe;have HB:=qf;have qa:=qg;clear qe qf qg;(try clear hb);(try clear hb2);(try clear hk);(try clear hi)))
 go_ret
 exact⟨by first|rfl|(simp [errW_none,errW_some] <;> rfl)|(simp [*,errW_none,errW_some] <;> rfl),by repeat(first|(with_reducible first|exact qa.out|apply IsS84.alloc|apply IsS84.drewN|apply IsS84.drew|apply IsS84.set_1|apply IsS84.set_2)|exact qa.out),by repeat(first|(with_reducible first|exact HB.out|apply Kc|apply Kb|apply Ke|refine below_set ?_ (IsS84.ge qa.out))|exact HB.out),by repeat(first|(with_reducible first|exact HK.out|apply Kf|apply keep_drewN|apply keep_drew|apply keep_alloc)|exact HK.out)⟩

end Go.Proofs.Ytbdnpfjjaokdbaa.HFnDecoded
