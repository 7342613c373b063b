-- Laid by myprint.py, a program of this repo, out of the kit's printer and this repo's own texts (wip/hand).
import Derived.Test.YtelcpfanjjfgdaaHFnPackedx0
import Derived.Test.YtelcpfanjjfgdaaHFnPackedx1
import Derived.Test.YtelcpfanjjfgdaaHFnPackedx3
namespace Go.Proofs.Ytelcpfanjjfgdaa.HFnPacked
open Go.RowKit Go.Proofs.YtelcpfanjjfgdaaW.PrintWords Go.Proofs.YtelcpfanjjfgdaaW.PrintLast Go.Proofs.YtelcpfanjjfgdaaW.PrintMore
attribute [local go_sem] max2_int min2_int max_two min_two max_three min_three max_four min_four   -- for this text's walks alone
set_option linter.unusedVariables false
set_option linter.unusedSimpArgs false
theorem Ea : type_of% @Aside0.mk := @Aside0.mk
theorem Eb : type_of% @pw_below_drewN := @pw_below_drewN
theorem Ec : type_of% @below_alloc := @below_alloc
theorem Ed : type_of% @Kd.R_drew := @Kd.R_drew
theorem Ee : type_of% @below_drew1 := @below_drew1
theorem Ef : type_of% @Kd.R_alloc := @Kd.R_alloc
theorem Eg : type_of% @Kd.R_drewN := @Kd.R_drewN
theorem Eh : type_of% @blk_frozen := @blk_frozen
theorem Ei : type_of% @blk_cell := @blk_cell
theorem Ej : type_of% @below_size := @below_size
theorem Ek : type_of% @below_set := @below_set
theorem El : type_of% @blk_alloc := @blk_alloc
theorem Em : type_of% @Kd.R_far := @Kd.R_far
theorem En : type_of% @below_step := @below_step
theorem Eo : type_of% @blk_drewN := @blk_drewN

attribute [local go_sem high] eqA71
/-! ### laws_big: function 29 -/
def laws_big.f (l0 : List Int) : Option (Bool) := some (decide ((l0.length : Int) > 4096))
set_option maxHeartbeats 8000000 in
set_option maxRecDepth 100000 in
theorem laws_big.calls (A0 : Option Addr) (c0 : Nat) (l0 : List Int) (r : Bool) (w : World) (hr0 : Kd.C (Kd.int .u8) w A0 l0.length l0) (hc0 : l0.length ≤ c0) (h : laws_big.f l0 = some r) :
  Calls Try.prog 29 #[.slice A0 l0.length c0] w fun e w'=>e=.returned (.bool r)∧Drawn0 w w':=by
 have HR0:=Ea hr0
 have HC0:=Ea hc0
 clear hr0 hc0
 have H:(some (decide ((l0.length:Int) > 4096)))=some r:=h
 clear h
 obtain rfl:=Option.some.inj H
 go_enter Try.func29,Try.ntmps29
 go_wp2
 go_ret
 exact⟨by first|rfl|(simp;done)|(simp [*];done),by repeat(first|exact Drawn0.refl _|apply Drawn0.step)⟩

/-! ### impl_Asset_86: function 86 -/
def impl_Asset_86.l0 : Nat → List (S71) → Int → Int → ByteArray → Int → Int → Option (Int)
 | 0, _, _, _, _, _, _ => none
 | k + 1, x0, x7, x8, x111000, x111001, x111002 => if x8 < x7 then (if 0 ≤ x8 then (if x8 < (x0.length : Int) then (if (x111000.toList == (((rd_T71 x0 x8).f0).toList) && (x111001 == ((rd_T71 x0 x8).f1) && (x111002 == ((rd_T71 x0 x8).f2)))) = true then (some x8) else (impl_Asset_86.l0 k x0 x7 (wrap64 (x8 + 1)) x111000 x111001 x111002)) else (none)) else (none)) else (some (-1))
def impl_Asset_86.f (k : Nat) (l0 : List (S71)) (a1_0 : ByteArray) (a1_1 : Int) (a1_2 : Int) : Option (Int) := impl_Asset_86.l0 k l0 (l0.length : Int) 0 a1_0 a1_1 a1_2
theorem impl_Asset_86.mono_l : ∀ k, (∀ y0 y1 y2 y3 y4 y5, LeO (impl_Asset_86.l0 k y0 y1 y2 y3 y4 y5) (impl_Asset_86.l0 (k + 1) y0 y1 y2 y3 y4 y5))
 | 0 => fun _ _ _ _ _ _ r h => by simp [impl_Asset_86.l0] at h
 | k + 1 => by
  have ih0:=impl_Asset_86.mono_l k
  ·intro y0 y1 y2 y3 y4 y5
   unfold impl_Asset_86.l0
   repeat' first
   | (with_reducible exact ih0 _ _ _ _ _ _)
   | (with_reducible exact LeO.refl _)
   | (with_reducible exact LeO.none _)
   | (with_reducible refine LeO.ite ?_ ?_)
   | (with_reducible refine LeO.bind ?_ (fun _ => ?_))
   | exact ih0 _ _ _ _ _ _
   | exact LeO.none _
   | refine LeO.ite ?_ ?_
   | refine LeO.bind ?_ (fun _ => ?_)
theorem impl_Asset_86.mono : ∀ a0 a1 a2 a3 k, LeO (impl_Asset_86.f k a0 a1 a2 a3) (impl_Asset_86.f (k + 1) a0 a1 a2 a3) := by
 intro a0 a1 a2 a3 k
 have ih0:=impl_Asset_86.mono_l k
 unfold impl_Asset_86.f
 repeat' first
   | (with_reducible exact ih0 _ _ _ _ _ _)
   | (with_reducible exact LeO.refl _)
   | (with_reducible exact LeO.none _)
   | (with_reducible refine LeO.ite ?_ ?_)
   | (with_reducible refine LeO.bind ?_ (fun _ => ?_))
   | exact ih0 _ _ _ _ _ _
   | exact LeO.none _
   | refine LeO.ite ?_ ?_
   | refine LeO.bind ?_ (fun _ => ?_)
set_option maxHeartbeats 8000000 in
set_option maxRecDepth 100000 in
theorem impl_Asset_86.calls (k : Nat) (A0 : Option Addr) (c0 : Nat) (l0 : List (S71)) (a1_0 : ByteArray) (a1_1 : Int) (a1_2 : Int) (r : Int) (w : World) (hr0 : Kd.C k71 w A0 l0.length l0) (hc0 : l0.length ≤ c0) (h : impl_Asset_86.f k l0 a1_0 a1_1 a1_2 = some r) :
  Calls Try.prog 86 #[.slice A0 l0.length c0,.agg #[.string a1_0,.int .i64 a1_1,.int .i64 a1_2]] w fun e w'=>e=.returned (.int .i64 r)∧Below w.heap.size w w':=by
 have hu71:=Try.underlying71
 have HR0:=Ea hr0
 have HC0:=Ea hc0
 clear hr0 hc0
 have HB:=Ea (Below.refl w.heap.size w)
 have H:(impl_Asset_86.l0 k l0 (l0.length:Int) 0 a1_0 a1_1 a1_2)=some r:=h
 clear h
 have H':=Ea H
 clear H
 go_enter Try.func86,Try.ntmps86
 go_wp2_with (first|((with_reducible refine gate_dst (N:=3) rfl ?_);refine box_event ?hg (N:=3) ?hd (cs:=#[.string a1_0,.int .i64 a1_1,.int .i64 a1_2]) (t:=71) ?hr ?_;(case hd=>rfl);(case hg=>rfl);(case hr=>first|(go_simp;done)|(go_simp;rfl));intro gb110 hg w3 hbox hb;have n0_:=Ea (En (by repeat(first|(with_reducible first|exact HB.out|apply Ec|apply Eb|apply Ee)|exact HB.out)) hb);have n1_:=Ea (hbox);have n2_:=Ea ((by rw [hg];exact(Ej (by repeat(first|(with_reducible first|exact HB.out|apply Ec|apply Eb|apply Ee)|exact HB.out))):w.heap.size≤gb110));have n3_:=Ea ((by rw [hg];exact(Ej (by repeat(first|(with_reducible first|exact HB.out|apply Ec|apply Eb|apply Ee)|exact HB.out))):w.heap.size≤gb110));clear HB;have HB:=n0_;have BK110:=n1_;have GW110:=n2_;have GE110:=n3_;clear n0_ n1_ n2_ n3_;clear hb hbox hg))
 repeat(go_quiet (first|((with_reducible refine gate_dst (N:=3) rfl ?_);refine box_event ?hg (N:=3) ?hd (cs:=#[.string a1_0,.int .i64 a1_1,.int .i64 a1_2]) (t:=71) ?hr ?_;(case hd=>rfl);(case hg=>rfl);(case hr=>first|(go_simp;done)|(go_simp;rfl));intro gb110 hg w3 hbox hb;have n0_:=Ea (En (by repeat(first|(with_reducible first|exact HB.out|apply Ec|apply Eb|apply Ee)|exact HB.out)) hb);have n1_:=Ea (hbox);have n2_:=Ea ((by rw [hg];exact(Ej (by repeat(first|(with_reducible first|exact HB.out|apply Ec|apply Eb|apply Ee)|exact HB.out))):w.heap.size≤gb110));have n3_:=Ea ((by rw [hg];exact(Ej (by repeat(first|(with_reducible first|exact HB.out|apply Ec|apply Eb|apply Ee)|exact HB.out))):w.heap.size≤gb110));clear HB;have HB:=n0_;have BK110:=n1_;have GW110:=n2_;have GE110:=n3_;clear n0_ n1_ n2_ n3_;clear hb hbox hg));try go_wp2_with (first|((with_reducible refine gate_dst (N:=3) rfl ?_);refine box_event ?hg (N:=3) ?hd (cs:=#[.string a1_0,.int .i64 a1_1,.int .i64 a1_2]) (t:=71) ?hr ?_;(case hd=>rfl);(case hg=>rfl);(case hr=>first|(go_simp;done)|(go_simp;rfl));intro gb110 hg w3 hbox hb;have n0_:=Ea (En (by repeat(first|(with_reducible first|exact HB.out|apply Ec|apply Eb|apply Ee)|exact HB.out)) hb);have n1_:=Ea (hbox);have n2_:=Ea ((by rw [hg];exact(Ej (by repeat(first|(with_reducible first|exact HB.out|apply Ec|apply Eb|apply Ee)|exact HB.out))):w.heap.size≤gb110));have n3_:=Ea ((by rw [hg];exact(Ej (by repeat(first|(with_reducible first|exact HB.out|apply Ec|apply Eb|apply Ee)|exact HB.out))):w.heap.size≤gb110));clear HB;have HB:=n0_;have BK110:=n1_;have GW110:=n2_;have GE110:=n3_;clear n0_ n1_ n2_ n3_;clear hb hbox hg)))
 go_loopg [8] k (fun kq v8 w'=>∃ (x8_1:Int),v8=.int .i64 x8_1∧Aside0 (impl_Asset_86.l0 kq l0 (l0.length:Int) x8_1 a1_0 a1_1 a1_2=some r)∧Aside0 (kq≤k)∧Aside0 (w'.heap[gb110]? = some (.cells #[.string a1_0,.int .i64 a1_1,.int .i64 a1_2] 71 (0,0)))∧Aside0 (Below w.heap.size w w'))
 case atStart=>exact⟨(0),(by first|rfl|(simp;done)|(simp [*];done)),H',⟨Nat.le_refl _⟩,⟨by(with_reducible repeat(first|refine Eo ?_ _|refine blk_drew ?_|refine El ?_ _));exact BK110.out⟩,⟨by repeat(first|(with_reducible first|exact HB.out|apply Ec|apply Eb|apply Ee|refine Ek ?_ GE110.out)|exact HB.out)⟩⟩
 case round=>
  clear H'
  try clear p2
  obtain⟨x8_1,rfl,HA,HK1,BK110,HB⟩:=hrel
  cases gk with
  | zero => exact absurd HA.out (by simp [impl_Asset_86.l0])
  | succ k1 =>
   have H:=HA.out
   clear HA
   simp only [impl_Asset_86.l0] at H
   by_cases c4:x8_1 < (l0.length:Int)
   ·rw [if_pos c4] at H
    have c4b0:decide (x8_1 < (l0.length:Int))=true:=decide_eq_true c4
    clear c4
    by_cases c5:0≤x8_1
    ·rw [if_pos c5] at H
     have c5b0:decide (0≤x8_1)=true:=decide_eq_true c5
     clear c5
     by_cases c6:x8_1 < (l0.length:Int)
     ·rw [if_pos c6] at H
      have c6b0:decide (x8_1 < (l0.length:Int))=true:=decide_eq_true c6
      clear c6
      by_cases c7:(a1_0.toList == (((rd_T71 l0 x8_1).f0).toList) && (a1_1 == ((rd_T71 l0 x8_1).f1) && (a1_2 == ((rd_T71 l0 x8_1).f2))))=true
      ·rw [if_pos c7] at H
       have c7b0:(a1_0.toList == (((rd_T71 l0 x8_1).f0).toList) && (a1_1 == ((rd_T71 l0 x8_1).f1) && (a1_2 == ((rd_T71 l0 x8_1).f2))))=true:=c7
       (try(have c7b1:decide (a1_0.toList=(((rd_T71 l0 x8_1).f0).toList) && (a1_1 == ((rd_T71 l0 x8_1).f1) && (a1_2 == ((rd_T71 l0 x8_1).f2))))=true:=by simpa using c7))
       (try(have c7b2:(a1_0.toList == (((rd_T71 l0 x8_1).f0).toList) && (a1_1 == ((rd_T71 l0 x8_1).f1) && (a1_2 == ((rd_T71 l0 x8_1).f2))))=true:=by simpa using c7))
       clear c7
       obtain rfl:=Option.some.inj H
       have hcz8_0:wr.cell? ⟨gb110,0,none⟩=some (.string a1_0):=(Ei BK110.out 0).trans rfl
       have hcz8_1:wr.cell? ⟨gb110,1,none⟩=some (.int .i64 a1_1):=(Ei BK110.out 1).trans rfl
       have hcz8_2:wr.cell? ⟨gb110,2,none⟩=some (.int .i64 a1_2):=(Ei BK110.out 2).trans rfl
       have hfz8_0:=Eh BK110.out 0
       have hfz8_1:=Eh BK110.out 1
       have hfz8_2:=Eh BK110.out 2
       have p111:0≤(x8_1:Int):=of_decide_eq_true (by first|(with_reducible assumption)|assumption)
       have q111:x8_1 < (l0.length:Int):=of_decide_eq_true (by first|(with_reducible assumption)|assumption)
       obtain⟨ad111,e111,hx111_0,hx111_1,hx111_2⟩:=at_T71 HR0.out x8_1 p111 q111
       cases e111
       replace hx111_0:=(HB.out.cell (World.block_lt_of_cell? w _ hx111_0)).trans hx111_0
       replace hx111_1:=(HB.out.cell (World.block_lt_of_cell? w _ hx111_1)).trans hx111_1
       replace hx111_2:=(HB.out.cell (World.block_lt_of_cell? w _ hx111_2)).trans hx111_2
       replace p111:=eq_true p111
       replace q111:=eq_true q111
       go_wp2
       repeat(go_quiet (fail);try go_wp2)
       go_ret
       exact⟨by first|rfl|(simp [errW_none,errW_some] <;> rfl)|(simp [*,errW_none,errW_some] <;> rfl),by repeat(first|(with_reducible first|exact HB.out|apply Ec|apply Eb|apply Ee|refine Ek ?_ GE110.out)|exact HB.out)⟩
      ·rw [if_neg c7] at H
       have c7b0:(a1_0.toList == (((rd_T71 l0 x8_1).f0).toList) && (a1_1 == ((rd_T71 l0 x8_1).f1) && (a1_2 == ((rd_T71 l0 x8_1).f2))))=false:=by simpa using c7
       (try(have c7b1:decide (a1_0.toList=(((rd_T71 l0 x8_1).f0).toList) && (a1_1 == ((rd_T71 l0 x8_1).f1) && (a1_2 == ((rd_T71 l0 x8_1).f2))))=false:=by simpa using c7))
       (try(have c7b2:(a1_0.toList == (((rd_T71 l0 x8_1).f0).toList) && (a1_1 == ((rd_T71 l0 x8_1).f1) && (a1_2 == ((rd_T71 l0 x8_1).f2))))=false:=by simpa using c7))
       (try(have c7b3 : ¬ (a1_0.toList=(((rd_T71 l0 x8_1).f0).toList) && (a1_1 == ((rd_T71 l0 x8_1).f1) && (a1_2 == ((rd_T71 l0 x8_1).f2)))):=by simpa using c7))
       clear c7
       have H':=Ea H
       clear H
       have hcz9_0:wr.cell? ⟨gb110,0,none⟩=some (.string a1_0):=(Ei BK110.out 0).trans rfl
       have hcz9_1:wr.cell? ⟨gb110,1,none⟩=some (.int .i64 a1_1):=(Ei BK110.out 1).trans rfl
       have hcz9_2:wr.cell? ⟨gb110,2,none⟩=some (.int .i64 a1_2):=(Ei BK110.out 2).trans rfl
       have hfz9_0:=Eh BK110.out 0
       have hfz9_1:=Eh BK110.out 1
       have hfz9_2:=Eh BK110.out 2
       have p111:0≤(x8_1:Int):=of_decide_eq_true (by first|(with_reducible assumption)|assumption)
       have q111:x8_1 < (l0.length:Int):=of_decide_eq_true (by first|(with_reducible assumption)|assumption)
       obtain⟨ad111,e111,hx111_0,hx111_1,hx111_2⟩:=at_T71 HR0.out x8_1 p111 q111
       cases e111
       replace hx111_0:=(HB.out.cell (World.block_lt_of_cell? w _ hx111_0)).trans hx111_0
       replace hx111_1:=(HB.out.cell (World.block_lt_of_cell? w _ hx111_1)).trans hx111_1
       replace hx111_2:=(HB.out.cell (World.block_lt_of_cell? w _ hx111_2)).trans hx111_2
       replace p111:=eq_true p111
       replace q111:=eq_true q111
       go_wp2
       repeat(go_quiet (fail);try go_wp2)
       go_roundg k1
       case measure=>have:=HK1.out;omega
       case rel=>exact⟨(wrap64 (x8_1+1)),(by first|rfl|(simp;done)|(simp [*];done)),H',⟨by have:=HK1.out;omega⟩,⟨by(with_reducible repeat(first|refine Eo ?_ _|refine blk_drew ?_|refine El ?_ _));exact BK110.out⟩,⟨by repeat(first|(with_reducible first|exact HB.out|apply Ec|apply Eb|apply Ee|refine Ek ?_ GE110.out)|exact HB.out)⟩⟩
     ·rw [if_neg c6] at H
      exact absurd H (by simp)
    ·rw [if_neg c5] at H
     exact absurd H (by simp)
   ·rw [if_neg c4] at H
    have c4b0:decide (x8_1 < (l0.length:Int))=false:=decide_eq_false c4
    clear c4
    obtain rfl:=Option.some.inj H
    go_wp2
    repeat(go_quiet (fail);try go_wp2)
    go_ret
    exact⟨by first|rfl|(simp [errW_none,errW_some] <;> rfl)|(simp [*,errW_none,errW_some] <;> rfl),by repeat(first|(with_reducible first|exact HB.out|apply Ec|apply Eb|apply Ee|refine Ek ?_ GE110.out)|exact HB.out)⟩

/-! ### impl_Asset_72: function 72 -/
def impl_Asset_72.f (k : Nat) (l0 : List (S71)) (a1_0 : ByteArray) (a1_1 : Int) (a1_2 : Int) : Option (Bool) := (impl_Asset_86.f k l0 a1_0 a1_1 a1_2).bind fun t113 => (some (decide (t113 ≥ 0)))
theorem impl_Asset_72.mono : ∀ a0 a1 a2 a3 k, LeO (impl_Asset_72.f k a0 a1 a2 a3) (impl_Asset_72.f (k + 1) a0 a1 a2 a3) := by
 intro a0 a1 a2 a3 k
 unfold impl_Asset_72.f
 repeat' first
   | (with_reducible exact impl_Asset_86.mono _ _ _ _ _)
   | (with_reducible exact LeO.refl _)
   | (with_reducible exact LeO.none _)
   | (with_reducible refine LeO.ite ?_ ?_)
   | (with_reducible refine LeO.bind ?_ (fun _ => ?_))
   | exact impl_Asset_86.mono _ _ _ _ _
   | exact LeO.none _
   | refine LeO.ite ?_ ?_
   | refine LeO.bind ?_ (fun _ => ?_)
set_option maxHeartbeats 8000000 in
set_option maxRecDepth 100000 in
theorem impl_Asset_72.calls (k : Nat) (A0 : Option Addr) (c0 : Nat) (l0 : List (S71)) (a1_0 : ByteArray) (a1_1 : Int) (a1_2 : Int) (r : Bool) (w : World) (hr0 : Kd.C k71 w A0 l0.length l0) (hc0 : l0.length ≤ c0) (h : impl_Asset_72.f k l0 a1_0 a1_1 a1_2 = some r) :
  Calls Try.prog 72 #[.slice A0 l0.length c0,.agg #[.string a1_0,.int .i64 a1_1,.int .i64 a1_2]] w fun e w'=>e=.returned (.bool r)∧Below w.heap.size w w':=by
 have hu71:=Try.underlying71
 have HR0:=Ea hr0
 have HC0:=Ea hc0
 clear hr0 hc0
 have HB:=Ea (Below.refl w.heap.size w)
 have H:((impl_Asset_86.f k l0 a1_0 a1_1 a1_2).bind fun t113=>(some (decide (t113 ≥ 0))))=some r:=h
 clear h
 replace H:=Option.bind_eq_some_iff.mp H
 obtain⟨t113,A30,H⟩:=H
 replace H:(some (decide (t113 ≥ 0)))=some r:=H
 have A3:=Ea A30
 clear A30
 obtain rfl:=Option.some.inj H
 go_enter Try.func72,Try.ntmps72
 go_wp2_with (first|((with_reducible refine gate_dst (N:=3) rfl ?_);refine box_event ?hg (N:=3) ?hd (cs:=#[.string a1_0,.int .i64 a1_1,.int .i64 a1_2]) (t:=71) ?hr ?_;(case hd=>rfl);(case hg=>rfl);(case hr=>first|(go_simp;done)|(go_simp;rfl));intro gb112 hg w4 hbox hb;have n0_:=Ea (En (by repeat(first|(with_reducible first|exact HB.out|apply Ec|apply Eb|apply Ee)|exact HB.out)) hb);have n1_:=Ea (hbox);have n2_:=Ea ((by rw [hg];exact(Ej (by repeat(first|(with_reducible first|exact HB.out|apply Ec|apply Eb|apply Ee)|exact HB.out))):w.heap.size≤gb112));have n3_:=Ea ((by rw [hg];exact(Ej (by repeat(first|(with_reducible first|exact HB.out|apply Ec|apply Eb|apply Ee)|exact HB.out))):w.heap.size≤gb112));clear HB;have HB:=n0_;have BK112:=n1_;have GW112:=n2_;have GE112:=n3_;clear n0_ n1_ n2_ n3_;clear hb hbox hg;have hcz5_0:w4.cell? ⟨gb112,0,none⟩=some (.string a1_0):=(Ei BK112.out 0).trans rfl;have hcz5_1:w4.cell? ⟨gb112,1,none⟩=some (.int .i64 a1_1):=(Ei BK112.out 1).trans rfl;have hcz5_2:w4.cell? ⟨gb112,2,none⟩=some (.int .i64 a1_2):=(Ei BK112.out 2).trans rfl;have hfz5_0:=Eh BK112.out 0;have hfz5_1:=Eh BK112.out 1;have hfz5_2:=Eh BK112.out 2)|((with_reducible refine gate_callee (f:=86) rfl ?_);refine goesL_ (some 7) rfl rfl Try.func86 (by kernel_rfl) rfl #[.slice A0 l0.length c0,.agg #[.string a1_0,.int .i64 a1_1,.int .i64 a1_2]] rfl (by(try simp only [List.map_toArray,List.map_cons,List.map_nil]);first|done|rfl|(simp only [List.length_drop,List.length_take];rfl)) ?_;(with_reducible refine(impl_Asset_86.calls k _ _ l0 a1_0 a1_1 a1_2 t113 _ ?side1 ?side2 A3.out).mono ?_);(case side1=>repeat(first|exact(Kd.C_below HR0.out HB.out)|(with_reducible refine Kd.C_alloc ?_ _)|(with_reducible refine Kd.C_drewN ?_ _)|(with_reducible refine Kd.C_drew ?_)));(case side2=>exact HC0.out);rintro e w6 ⟨rfl,hb⟩;refine⟨_,rfl,?_⟩;have n0_:=Ea (blk_below (g:=gb112) (o:=.cells #[.string a1_0,.int .i64 a1_1,.int .i64 a1_2] 71 (0,0)) (by(with_reducible repeat(first|refine Eo ?_ _|refine blk_drew ?_|refine El ?_ _));exact BK112.out) hb);have n1_:=Ea (En (by repeat(first|(with_reducible first|exact HB.out|apply Ec|apply Eb|apply Ee|refine Ek ?_ GE112.out)|exact HB.out)) hb);clear BK112;clear HB;have BK112:=n0_;have HB:=n1_;clear n0_ n1_;(try clear hb);(try clear hb2);(try clear hk);(try clear hi)))
 go_ret
 exact⟨by first|rfl|(simp [errW_none,errW_some] <;> rfl)|(simp [*,errW_none,errW_some] <;> rfl),by repeat(first|(with_reducible first|exact HB.out|apply Ec|apply Eb|apply Ee|refine Ek ?_ GE112.out)|exact HB.out)⟩

-- NOT PRINTED: function 88 (impl_named_1)

/-! ### impl_named: function 73 -/
def nmd_idx (s : ByteArray) : List S71 → Int → Int
 | [], _ => -1
 | x :: xs, i => if x.f0 = s then i else nmd_idx s xs (i + 1)
theorem nmd_any (s : ByteArray) : ∀ (l : List S71) (i : Int), 0 ≤ i → decide (0 ≤ nmd_idx s l i) = l.any fun x => decide (x.f0 = s)
 | [], i, _ => by simp [nmd_idx]
 | x :: xs, i, h => by
  rw [nmd_idx,List.any_cons]
  by_cases e:x.f0=s
  ·rw [if_pos e,decide_eq_true h,decide_eq_true e,Bool.true_or]
  ·rw [if_neg e,decide_eq_false e,Bool.false_or]
   exact nmd_any s xs (i+1) (by omega)
set_option maxHeartbeats 4000000 in
set_option maxRecDepth 100000 in
theorem nmd_lit (x : ByteArray) (y z : Int) (s : ByteArray) (g : Nat) (w : World) (hg : w.heap[g]? = some (.cells #[.string s] 9 (0, 0))) :
  Calls Try.prog 88 #[.agg #[.string x,.int .i64 y,.int .i64 z],.pointer (some ⟨g,0,none⟩)] w fun e w'=>e=.returned (.bool (decide (x=s)))∧Below w.heap.size w w':=by
 have hu:=Try.underlying71
 have hk:w.cell? ⟨g,0,none⟩=some (.string s):=(Ei hg 0).trans rfl
 have hne:=blk_lt hg
 go_enter Try.func88,Try.ntmps88
 go_wp2
 go_ret
 refine⟨?_,Ec (Below.refl _ _) _⟩
 by_cases e:x=s
 ·subst e;simp
 ·have:(x.toList == s.toList)=false:=by
   rw [beq_eq_false_iff_ne]
   intro h
   rw [ByteArray.toList_eq,ByteArray.toList_eq] at h
   exact e (ByteArray.ext (Array.toList_inj.mp h))
  simp [e,this]
set_option maxHeartbeats 4000000 in
set_option maxRecDepth 100000 in
theorem nmd_index (s : ByteArray) (g : Nat) (A0 : Option Addr) (c0 : Nat) (l0 : List S71) (w : World) (hr0 : Kd.C k71 w A0 l0.length l0) (hc0 : l0.length ≤ c0) (hg : w.heap[g]? = some (.cells #[.string s] 9 (0, 0))) :
  Calls Try.prog 93 #[.slice A0 l0.length c0,.func (.func 88) #[] #[.pointer (some ⟨g,0,none⟩)]] w fun e w'=>e=.returned (.int .i64 (nmd_idx s l0 0))∧Below w.heap.size w w':=by
 have HR0:=Ea hr0
 have HC0:=Ea hc0
 have HM:=Ea hr0.2.1
 have HG:=Ea hg
 clear hr0 hc0 hg
 obtain⟨r,hr⟩:∃ r,r=nmd_idx s l0 0:=⟨_,rfl⟩
 rw [← hr]
 have H:=Ea hr.symm
 clear hr
 go_enter Try.func93,Try.ntmps93
 go_wp2
 go_loopg [5,8] l0.length (fun gg _ v8 w'=>∃ kk:Nat,Aside0 (kk≤l0.length∧l0.length - kk≤gg)∧v8=.int .i64 (kk:Int)∧Aside0 (nmd_idx s (l0.drop kk) (kk:Int)=r)∧Aside0 (Below w.heap.size w w'))
 case atStart=>exact⟨0,⟨Nat.zero_le _,Nat.le_refl _⟩,rfl,H,⟨Below.refl _ _⟩⟩
 case round=>
  obtain⟨kk,HK,rfl,HI,HB⟩:=hrel
  by_cases hlt:kk < l0.length
  ·obtain⟨ad,e,hx0,hx1,hx2⟩:=at_T71 HR0.out (kk:Int) (by omega) (by omega)
   cases e
   replace hx0:=(HB.out.cell (World.block_lt_of_cell? w _ hx0)).trans hx0
   replace hx1:=(HB.out.cell (World.block_lt_of_cell? w _ hx1)).trans hx1
   replace hx2:=(HB.out.cell (World.block_lt_of_cell? w _ hx2)).trans hx2
   simp only [Int.toNat_natCast] at hx0 hx1 hx2
   have HI2:(if (rd_T71 l0 (kk:Int)).f0=s then (kk:Int) else nmd_idx s (l0.drop (kk+1)) ((kk:Int)+1))=r:=by
    have:=HI.out
    rw [List.drop_eq_getElem_cons hlt] at this
    have e:l0[kk]=rd_T71 l0 (kk:Int):=by simp [rd_T71,List.getD_eq_getElem?_getD,List.getElem?_eq_getElem hlt]
    rw [e] at this
    exact this
   have HI4:=Ea HI2
   clear HI2
   have hltb:decide ((kk:Int) < (l0.length:Int))=true:=decide_eq_true (by omega)
   have HM2:l0.length≤9223372036854775807:=HM.out
   have p0:(0≤(kk:Int))=True:=eq_true (by omega)
   have q0:((kk:Int) < (l0.length:Int))=True:=eq_true (by omega)
   have HGW:=Ea (blk_below HG.out HB.out)
   by_cases hE:(rd_T71 l0 (kk:Int)).f0=s
   ·have hd:decide ((rd_T71 l0 (kk:Int)).f0=s)=true:=decide_eq_true hE
    have HI5:(kk:Int)=r:=by have:=HI4.out;rwa [if_pos hE] at this
    subst HI5
    clear hE
    go_wp2_with (go_at_call 88;refine(nmd_lit _ _ _ s g _ HGW.out).mono ?_;rintro e w' ⟨rfl,hb'⟩)
    go_ret
    exact⟨rfl,below_then HB.out (Ej HB.out) hb'⟩
   ·have hd:decide ((rd_T71 l0 (kk:Int)).f0=s)=false:=decide_eq_false hE
    have HI6:=Ea (show nmd_idx s (l0.drop (kk+1)) ((kk:Int)+1)=r by have:=HI4.out;rwa [if_neg hE] at this)
    clear hE
    go_wp2_with (go_at_call 88;refine(nmd_lit _ _ _ s g _ HGW.out).mono ?_;rintro e w' ⟨rfl,hb'⟩)
    go_roundg (l0.length - (kk+1))
    case measure=>have:=HK.out;omega
    case rel=>exact⟨kk+1,⟨by omega,by omega⟩,by go_num,⟨by have:=HI6.out;simpa using this⟩,⟨below_then HB.out (Ej HB.out) hb'⟩⟩
  ·have hltb:decide ((kk:Int) < (l0.length:Int))=false:=decide_eq_false (by omega)
   have HI5:(-1:Int)=r:=by
    have:=HI.out
    rwa [List.drop_of_length_le (by omega)] at this
   subst HI5
   go_wp2
   go_ret
   exact⟨rfl,HB.out⟩
set_option maxHeartbeats 4000000 in
theorem nmd_contains (s : ByteArray) (g : Nat) (A0 : Option Addr) (c0 : Nat) (l0 : List S71) (w : World) (hr0 : Kd.C k71 w A0 l0.length l0) (hc0 : l0.length ≤ c0) (hg : w.heap[g]? = some (.cells #[.string s] 9 (0, 0))) :
  Calls Try.prog 87 #[.slice A0 l0.length c0,.func (.func 88) #[] #[.pointer (some ⟨g,0,none⟩)]] w fun e w'=>e=.returned (.bool (l0.any fun x=>decide (x.f0=s)))∧Below w.heap.size w w':=by
 have HR0:=Ea hr0
 have HC0:=Ea hc0
 have HG:=Ea hg
 clear hr0 hc0 hg
 rw [← nmd_any s l0 0 (Int.le_refl _)]
 go_enter Try.func87,Try.ntmps87
 go_wp2_with (go_at_call 93;refine(nmd_index s g _ _ l0 _ HR0.out HC0.out HG.out).mono ?_;rintro e w' ⟨rfl,hb⟩)
 go_ret
 exact⟨by simp [ge_iff_le],hb⟩
def impl_named.f (l0 : List S71) (a1 : ByteArray) : Option Bool := some (l0.any fun x => decide (x.f0 = a1))
set_option maxHeartbeats 4000000 in
theorem impl_named.calls (A0 : Option Addr) (c0 : Nat) (l0 : List (S71)) (a1 : ByteArray) (r : Bool) (w : World) (hr0 : Kd.C k71 w A0 l0.length l0) (hc0 : l0.length ≤ c0) (h : impl_named.f l0 a1 = some r) :
  Calls Try.prog 73 #[.slice A0 l0.length c0,.string a1] w fun e w'=>e=.returned (.bool r)∧Below w.heap.size w w':=by
 have HR0:=Ea (Kd.C_below hr0 (Ec (Below.refl _ _) (.cells #[.string a1] 9 (0,0))))
 have HC0:=Ea hc0
 clear hr0 hc0
 obtain rfl:=Option.some.inj h
 clear h
 have HG:=Ea (Go.Deep.blk_alloc_new w (.cells #[.string a1] 9 (0,0)))
 have HB:=Ea (Ec (Below.refl w.heap.size w) (.cells #[.string a1] 9 (0,0)))
 go_enter Try.func73,Try.ntmps73
 go_wp2_with (go_at_call 87;refine(nmd_contains a1 _ _ _ l0 _ HR0.out HC0.out HG.out).mono ?_;rintro e w' ⟨rfl,hb⟩)
 go_ret
 exact⟨rfl,En HB.out hb⟩


/-! ### impl_Update: function 32 -/
mutual
def impl_Update.j0 : Nat → List (S71) → List (S71) → Bool → Option (List ByteArray × List ByteArray)
 | 0, _, _, _ => none
 | k + 1, x0, x1, x19 => if x19 = true then (some (([] : List ByteArray), ([] : List ByteArray))) else (impl_Update.l0 k x0 x1 (([] : List ByteArray)) (([] : List ByteArray)) x1 (x1.length : Int) 0)
def impl_Update.l0 : Nat → List (S71) → List (S71) → List ByteArray → List ByteArray → List (S71) → Int → Int → Option (List ByteArray × List ByteArray)
 | 0, _, _, _, _, _, _, _ => none
 | k + 1, x0, x1, x6, x7, x22, x23, x24 => if x24 < x23 then (if 0 ≤ x24 then (if x24 < (x22.length : Int) then ((impl_Asset_72.f k x0 ((rd_T71 x22 x24).f0) ((rd_T71 x22 x24).f1) ((rd_T71 x22 x24).f2)).bind fun t125 => (if t125 = true then (impl_Update.l0 k x0 x1 x6 x7 x22 x23 (wrap64 (x24 + 1))) else (if x6.length < 8796093022208 then (impl_Update.l0 k x0 x1 (x6 ++ [(rd_T71 x22 x24).f0]) x7 x22 x23 (wrap64 (x24 + 1))) else (none)))) else (none)) else (none)) else (impl_Update.l1 k x1 x6 x7 x0 (x0.length : Int) 0)
def impl_Update.l1 : Nat → List (S71) → List ByteArray → List ByteArray → List (S71) → Int → Int → Option (List ByteArray × List ByteArray)
 | 0, _, _, _, _, _, _ => none
 | k + 1, x1, x6, x7, x38, x39, x40 => if x40 < x39 then (if 0 ≤ x40 then (if x40 < (x38.length : Int) then ((impl_named.f x1 ((rd_T71 x38 x40).f0)).bind fun t131 => (if t131 = true then (impl_Update.l1 k x1 x6 x7 x38 x39 (wrap64 (x40 + 1))) else (if x7.length < 8796093022208 then (impl_Update.l1 k x1 x6 (x7 ++ [(rd_T71 x38 x40).f0]) x38 x39 (wrap64 (x40 + 1))) else (none)))) else (none)) else (none)) else (some (x6, x7))
end
def impl_Update.f (k : Nat) (l0 : List (S71)) (l1 : List (S71)) : Option (List ByteArray × List ByteArray) := (impl_PackOk.f k l0).bind fun t115 => (if t115 = true then ((impl_PackOk.f k l1).bind fun t116 => (impl_Update.j0 k l0 l1 (!t116))) else (impl_Update.j0 k l0 l1 true))
theorem impl_Update.mono_l : ∀ k, (∀ y0 y1 y2, LeO (impl_Update.j0 k y0 y1 y2) (impl_Update.j0 (k + 1) y0 y1 y2)) ∧ (∀ y0 y1 y2 y3 y4 y5 y6, LeO (impl_Update.l0 k y0 y1 y2 y3 y4 y5 y6) (impl_Update.l0 (k + 1) y0 y1 y2 y3 y4 y5 y6)) ∧ (∀ y0 y1 y2 y3 y4 y5, LeO (impl_Update.l1 k y0 y1 y2 y3 y4 y5) (impl_Update.l1 (k + 1) y0 y1 y2 y3 y4 y5))
 | 0 => ⟨fun _ _ _ r h => by simp [impl_Update.j0] at h, fun _ _ _ _ _ _ _ r h => by simp [impl_Update.l0] at h, fun _ _ _ _ _ _ r h => by simp [impl_Update.l1] at h⟩
 | k + 1 => by
  obtain⟨ih0,ih1,ih2⟩:=impl_Update.mono_l k
  refine⟨?_,?_,?_⟩
  ·intro y0 y1 y2
   unfold impl_Update.j0
   repeat' first
   | (with_reducible exact ih0 _ _ _)
   | (with_reducible exact ih1 _ _ _ _ _ _ _)
   | (with_reducible exact ih2 _ _ _ _ _ _)
   | (with_reducible exact impl_Asset_72.mono _ _ _ _ _)
   | (with_reducible exact impl_PackOk.mono _ _)
   | (with_reducible exact LeO.refl _)
   | (with_reducible exact LeO.none _)
   | (with_reducible refine LeO.ite ?_ ?_)
   | (with_reducible refine LeO.bind ?_ (fun _ => ?_))
   | exact ih0 _ _ _
   | exact ih1 _ _ _ _ _ _ _
   | exact ih2 _ _ _ _ _ _
   | exact impl_Asset_72.mono _ _ _ _ _
   | exact impl_PackOk.mono _ _
   | exact LeO.none _
   | refine LeO.ite ?_ ?_
   | refine LeO.bind ?_ (fun _ => ?_)
  ·intro y0 y1 y2 y3 y4 y5 y6
   unfold impl_Update.l0
   repeat' first
   | (with_reducible exact ih0 _ _ _)
   | (with_reducible exact ih1 _ _ _ _ _ _ _)
   | (with_reducible exact ih2 _ _ _ _ _ _)
   | (with_reducible exact impl_Asset_72.mono _ _ _ _ _)
   | (with_reducible exact impl_PackOk.mono _ _)
   | (with_reducible exact LeO.refl _)
   | (with_reducible exact LeO.none _)
   | (with_reducible refine LeO.ite ?_ ?_)
   | (with_reducible refine LeO.bind ?_ (fun _ => ?_))
   | exact ih0 _ _ _
   | exact ih1 _ _ _ _ _ _ _
   | exact ih2 _ _ _ _ _ _
   | exact impl_Asset_72.mono _ _ _ _ _
   | exact impl_PackOk.mono _ _
   | exact LeO.none _
   | refine LeO.ite ?_ ?_
   | refine LeO.bind ?_ (fun _ => ?_)
  ·intro y0 y1 y2 y3 y4 y5
   unfold impl_Update.l1
   repeat' first
   | (with_reducible exact ih0 _ _ _)
   | (with_reducible exact ih1 _ _ _ _ _ _ _)
   | (with_reducible exact ih2 _ _ _ _ _ _)
   | (with_reducible exact impl_Asset_72.mono _ _ _ _ _)
   | (with_reducible exact impl_PackOk.mono _ _)
   | (with_reducible exact LeO.refl _)
   | (with_reducible exact LeO.none _)
   | (with_reducible refine LeO.ite ?_ ?_)
   | (with_reducible refine LeO.bind ?_ (fun _ => ?_))
   | exact ih0 _ _ _
   | exact ih1 _ _ _ _ _ _ _
   | exact ih2 _ _ _ _ _ _
   | exact impl_Asset_72.mono _ _ _ _ _
   | exact impl_PackOk.mono _ _
   | exact LeO.none _
   | refine LeO.ite ?_ ?_
   | refine LeO.bind ?_ (fun _ => ?_)
theorem impl_Update.mono : ∀ a0 a1 k, LeO (impl_Update.f k a0 a1) (impl_Update.f (k + 1) a0 a1) := by
 intro a0 a1 k
 obtain⟨ih0,ih1,ih2⟩:=impl_Update.mono_l k
 unfold impl_Update.f
 repeat' first
   | (with_reducible exact ih0 _ _ _)
   | (with_reducible exact ih1 _ _ _ _ _ _ _)
   | (with_reducible exact ih2 _ _ _ _ _ _)
   | (with_reducible exact impl_Asset_72.mono _ _ _ _ _)
   | (with_reducible exact impl_PackOk.mono _ _)
   | (with_reducible exact LeO.refl _)
   | (with_reducible exact LeO.none _)
   | (with_reducible refine LeO.ite ?_ ?_)
   | (with_reducible refine LeO.bind ?_ (fun _ => ?_))
   | exact ih0 _ _ _
   | exact ih1 _ _ _ _ _ _ _
   | exact ih2 _ _ _ _ _ _
   | exact impl_Asset_72.mono _ _ _ _ _
   | exact impl_PackOk.mono _ _
   | exact LeO.none _
   | refine LeO.ite ?_ ?_
   | refine LeO.bind ?_ (fun _ => ?_)
set_option maxHeartbeats 8000000 in
set_option maxRecDepth 100000 in
theorem impl_Update.calls (k : Nat) (A0 : Option Addr) (c0 : Nat) (l0 : List (S71)) (A1 : Option Addr) (c1 : Nat) (l1 : List (S71)) (r1 : List ByteArray) (r2 : List ByteArray) (w : World) (hr0 : Kd.C k71 w A0 l0.length l0) (hc0 : l0.length ≤ c0) (hr1 : Kd.C k71 w A1 l1.length l1) (hc1 : l1.length ≤ c1) (h : impl_Update.f k l0 l1 = some (r1, r2)) :
  Calls Try.prog 32 #[.slice A0 l0.length c0,.slice A1 l1.length c1] w fun e w'=>∃ v0_ v1_:Value,e=.returned (.tuple #[v0_,v1_])∧Kd.R Kd.string 9 w' w.heap.size (fun k_=>some k_≠(v1_:Value).ownBlock) v0_ r1∧Kd.R Kd.string 9 w' w.heap.size (fun k_=>some k_≠(v0_:Value).ownBlock) v1_ r2∧Below w.heap.size w w':=by
 have hu71:=Try.underlying71
 have HR0:=Ea hr0
 have HC0:=Ea hc0
 clear hr0 hc0
 have HR1:=Ea hr1
 have HC1:=Ea hc1
 clear hr1 hc1
 have HB:=Ea (Below.refl w.heap.size w)
 have H:((impl_PackOk.f k l0).bind fun t115=>(if t115=true then ((impl_PackOk.f k l1).bind fun t116=>(impl_Update.j0 k l0 l1 (!t116))) else (impl_Update.j0 k l0 l1 true)))=some (r1,r2):=h
 clear h
 have HC3:=Ea H
 clear H
 go_enter Try.func32,Try.ntmps32
 go_upto_region 1 with (fail)
 go_cut [19] (fun v19 wc=>∃ (kq:Nat) (x19_2:Bool),v19=.bool x19_2∧Aside0 (impl_Update.j0 kq l0 l1 x19_2=some (r1,r2))∧Aside0 (kq≤k)∧Aside0 (Below w.heap.size w wc))
 case first=>
  have H:=HC3.out
  clear HC3
  replace H:=Option.bind_eq_some_iff.mp H
  obtain⟨t115,A40,H⟩:=H
  replace H:(if t115=true then ((impl_PackOk.f k l1).bind fun t116=>(impl_Update.j0 k l0 l1 (!t116))) else (impl_Update.j0 k l0 l1 true))=some (r1,r2):=H
  have A4:=Ea A40
  clear A40
  by_cases c5:t115=true
  ·subst c5
   have H1:((impl_PackOk.f k l1).bind fun t116=>(impl_Update.j0 k l0 l1 (!t116)))=some (r1,r2):=by rw [if_pos rfl] at H;exact H
   clear H
   have H:=H1
   clear H1
   replace H:=Option.bind_eq_some_iff.mp H
   obtain⟨t116,A60,H⟩:=H
   replace H:(impl_Update.j0 k l0 l1 (!t116))=some (r1,r2):=H
   have A6:=Ea A60
   clear A60
   have H':=Ea H
   clear H
   go_wp2_with (first|((with_reducible refine gate_callee (f:=27) rfl ?_);refine goesL_ (some 13) rfl rfl Try.func27 (by kernel_rfl) rfl #[.slice A0 l0.length c0] rfl (by(try simp only [List.map_toArray,List.map_cons,List.map_nil]);first|done|rfl|(simp only [List.length_drop,List.length_take];rfl)) ?_;(with_reducible refine(impl_PackOk.calls k _ _ l0 true _ ?side1 ?side2 A4.out).mono ?_);(case side1=>repeat(first|exact(Kd.C_below HR0.out HB.out)|(with_reducible refine Kd.C_alloc ?_ _)|(with_reducible refine Kd.C_drewN ?_ _)|(with_reducible refine Kd.C_drew ?_)));(case side2=>exact HC0.out);rintro e w7 ⟨rfl,hb⟩;refine⟨_,rfl,?_⟩;have n0_:=Ea (En (by repeat(first|(with_reducible first|exact HB.out|apply Ec|apply Eb|apply Ee)|exact HB.out)) hb);clear HB;have HB:=n0_;clear n0_;(try clear hb);(try clear hb2);(try clear hk);(try clear hi))|(go_at_call 27;(with_reducible refine(impl_PackOk.calls k _ _ l1 t116 _ ?side1 ?side2 A6.out).mono ?_);(case side1=>repeat(first|exact(Kd.C_below HR1.out HB.out)|(with_reducible refine Kd.C_alloc ?_ _)|(with_reducible refine Kd.C_drewN ?_ _)|(with_reducible refine Kd.C_drew ?_)));(case side2=>exact HC1.out);rintro e w8 ⟨rfl,hb⟩;have n0_:=Ea (En (by repeat(first|(with_reducible first|exact HB.out|apply Ec|apply Eb|apply Ee)|exact HB.out)) hb);clear HB;have HB:=n0_;clear n0_;(try clear hb);(try clear hb2);(try clear hk);(try clear hi)))
   go_meet
   case rel=>exact⟨_,(!t116),(by first|rfl|(simp;done)|(simp [*];done)),H',⟨by first|omega|exact Nat.le_refl _⟩,⟨by repeat(first|(with_reducible first|exact HB.out|apply Ec|apply Eb|apply Ee)|exact HB.out)⟩⟩
  ·replace c5:=Bool.eq_false_iff.mpr c5
   subst c5
   have H1:(impl_Update.j0 k l0 l1 true)=some (r1,r2):=by rw [if_neg (show ¬ (false=true) by decide)] at H;exact H
   clear H
   have H:=H1
   clear H1
   have H':=Ea H
   clear H
   go_wp2_with (first|((with_reducible refine gate_callee (f:=27) rfl ?_);refine goesL_ (some 13) rfl rfl Try.func27 (by kernel_rfl) rfl #[.slice A0 l0.length c0] rfl (by(try simp only [List.map_toArray,List.map_cons,List.map_nil]);first|done|rfl|(simp only [List.length_drop,List.length_take];rfl)) ?_;(with_reducible refine(impl_PackOk.calls k _ _ l0 false _ ?side1 ?side2 A4.out).mono ?_);(case side1=>repeat(first|exact(Kd.C_below HR0.out HB.out)|(with_reducible refine Kd.C_alloc ?_ _)|(with_reducible refine Kd.C_drewN ?_ _)|(with_reducible refine Kd.C_drew ?_)));(case side2=>exact HC0.out);rintro e w9 ⟨rfl,hb⟩;refine⟨_,rfl,?_⟩;have n0_:=Ea (En (by repeat(first|(with_reducible first|exact HB.out|apply Ec|apply Eb|apply Ee)|exact HB.out)) hb);clear HB;have HB:=n0_;clear n0_;(try clear hb);(try clear hb2);(try clear hk);(try clear hi)))
   go_meet
   case rel=>exact⟨_,(true),(by first|rfl|(simp;done)|(simp [*];done)),H',⟨by first|omega|exact Nat.le_refl _⟩,⟨by repeat(first|(with_reducible first|exact HB.out|apply Ec|apply Eb|apply Ee)|exact HB.out)⟩⟩
 case rest=>
  clear HC3
  try clear c1
  try clear c2
  try clear p2
  try clear c3
  try clear c5
  obtain⟨kq,x19_2,rfl,HA,HJ2,HB⟩:=hcut
  cases kq with
  | zero => exact absurd HA.out (by simp [impl_Update.j0])
  | succ kj2 =>
   have H:=HA.out
   clear HA
   simp only [impl_Update.j0] at H
   by_cases c10:x19_2=true
   ·subst c10
    have H1:(some (([]:List ByteArray),([]:List ByteArray)))=some (r1,r2):=by rw [if_pos rfl] at H;exact H
    clear H
    have H:=H1
    clear H1
    simp only [Option.some.injEq,Prod.mk.injEq] at H
    obtain⟨rfl,rfl⟩:=H
    go_wp2
    go_ret2
    exact⟨_,_,by first|rfl|(simp [errW_none,errW_some] <;> rfl)|(simp [*,errW_none,errW_some] <;> rfl),by first|exact Kd.R_nil _ _ _ _ _|exact Kd.N_nil _ _ _ _ _|exact Kd.V_nil _ _ _ _ _|exact Kd.Q_nil _ _ _ _ _|exact Kd.S_nil _ _ _ _ _,by first|exact Kd.R_nil _ _ _ _ _|exact Kd.N_nil _ _ _ _ _|exact Kd.V_nil _ _ _ _ _|exact Kd.Q_nil _ _ _ _ _|exact Kd.S_nil _ _ _ _ _,by repeat(first|(with_reducible first|exact HB.out|apply Ec|apply Eb|apply Ee)|exact HB.out)⟩
   ·replace c10:=Bool.eq_false_iff.mpr c10
    subst c10
    have H1:(impl_Update.l0 kj2 l0 l1 (([]:List ByteArray)) (([]:List ByteArray)) l1 (l1.length:Int) 0)=some (r1,r2):=by rw [if_neg (show ¬ (false=true) by decide)] at H;exact H
    clear H
    have H:=H1
    clear H1
    obtain⟨y117,hy117⟩:∃ y_:List ByteArray,y_=(([]:List ByteArray)):=⟨_,rfl⟩
    replace H:(impl_Update.l0 kj2 l0 l1 y117 (([]:List ByteArray)) l1 (l1.length:Int) 0)=some (r1,r2):=by first|(rw [hy117];with_reducible exact H)|(have H2_:=(Option.bind_some _ _).symm.trans H;rw [hy117];with_reducible exact H2_)|(have H2_:=(Option.bind_some _ _).symm.trans H;with_reducible exact H2_)|with_reducible exact H|(rw [hy117];exact H)|exact H
    have Ny117:=Ea hy117
    clear hy117
    obtain⟨y120,hy120⟩:∃ y_:List ByteArray,y_=(([]:List ByteArray)):=⟨_,rfl⟩
    replace H:(impl_Update.l0 kj2 l0 l1 y117 y120 l1 (l1.length:Int) 0)=some (r1,r2):=by first|(rw [hy120];with_reducible exact H)|(have H2_:=(Option.bind_some _ _).symm.trans H;rw [hy120];with_reducible exact H2_)|(have H2_:=(Option.bind_some _ _).symm.trans H;with_reducible exact H2_)|with_reducible exact H|(rw [hy120];exact H)|exact H
    have Ny120:=Ea hy120
    clear hy120
    have H':=Ea H
    clear H
    go_wp2_with (first|((with_reducible refine gate_dst (N:=20) rfl ?_);refine Kd.R_lit Kd.string _ 9 ?hg (N:=20) ?hd (xs:=([]:List ByteArray)) (inner:=[]) (ok:=fun _=>True) (okp:=fun _=>True) ?hr ?hp (fun _ hk=>hk) trivial (Below.refl _ _) (Nat.le_refl _) (by simp) ?_;(case hd=>rfl);(case hg=>rfl);(case hr=>first|(go_simp;done)|(go_simp;rfl));(case hp=>exact(Reps.none _ _));intro v118 w11 ho12 hb hg_ hnew_;clear hg_ hnew_;(first|rw [← Ny117.out] at ho12|(simp only [Int.reduceToNat] at ho12;rw [← Ny117.out] at ho12));have n0_:=Ea (Kd.R_lower ho12 (Ej (by repeat(first|(with_reducible first|exact HB.out|apply Ec|apply Eb|apply Ee)|exact HB.out))));have n1_:=Ea (En (by repeat(first|(with_reducible first|exact HB.out|apply Ec|apply Eb|apply Ee)|exact HB.out)) hb);clear HB;have HO119:=n0_;have HB:=n1_;clear n0_ n1_;clear hb ho12)|((with_reducible refine gate_dst (N:=21) rfl ?_);refine Kd.R_lit Kd.string _ 9 ?hg (N:=21) ?hd (xs:=([]:List ByteArray)) (inner:=[]) (ok:=fun _=>True) (okp:=fun _=>True) ?hr ?hp (fun _ hk=>hk) trivial (Below.refl _ _) (Nat.le_refl _) (by simp) ?_;(case hd=>rfl);(case hg=>rfl);(case hr=>first|(go_simp;done)|(go_simp;rfl));(case hp=>exact(Reps.none _ _));intro v121 w13 ho14 hb hg_ hnew_;clear hg_ hnew_;(first|rw [← Ny120.out] at ho14|(simp only [Int.reduceToNat] at ho14;rw [← Ny120.out] at ho14));have n0_:=Ea (Kd.R_elder' (by(with_reducible repeat(first|apply Ef|apply Eg|apply Ed));exact HO119.out) (Kd.R_base ho14) hb);have n1_:=Ea (Kd.R_lower (Kd.R_new' ho14 (Kd.R_lt (by(with_reducible repeat(first|apply Ef|apply Eg|apply Ed));exact HO119.out))) (Ej (by repeat(first|(with_reducible first|exact HB.out|apply Ec|apply Eb|apply Ee)|exact HB.out))));have n2_:=Ea (En (by repeat(first|(with_reducible first|exact HB.out|apply Ec|apply Eb|apply Ee)|exact HB.out)) hb);clear HO119;clear HB;have HO119:=n0_;have HO122:=n1_;have HB:=n2_;clear n0_ n1_ n2_;clear hb ho14))
    go_loopg [6,24] kj2 (fun kq v6 v24 w'=>∃ (x6_2:List ByteArray) (x24_2:Int),v24=.int .i64 x24_2∧Aside0 (impl_Update.l0 kq l0 l1 x6_2 y120 l1 (l1.length:Int) x24_2=some (r1,r2))∧Aside0 (kq≤kj2)∧Aside0 (Kd.R Kd.string 9 w' w.heap.size (fun k_=>some k_≠(v121:Value).ownBlock) v6 x6_2)∧Aside0 (Kd.R Kd.string 9 w' w.heap.size (fun k_=>some k_≠(v6:Value).ownBlock) v121 y120)∧Aside0 (Below w.heap.size w w'))
    case atStart=>exact⟨(y117),(0),(by first|rfl|(simp;done)|(simp [*];done)),H',⟨Nat.le_refl _⟩,⟨by(with_reducible repeat(first|apply Ef|apply Eg|apply Ed));exact Kd.R_mono HO119.out (fun _ hk=>hk.2)⟩,⟨by(with_reducible repeat(first|apply Ef|apply Eg|apply Ed));exact Kd.R_mono HO122.out (fun _ hk=>hk.2)⟩,⟨by repeat(first|(with_reducible first|exact HB.out|apply Ec|apply Eb|apply Ee)|exact HB.out)⟩⟩
    case round=>
     clear H'
     try clear c1
     try clear c2
     try clear p2
     try clear c3
     try clear c5
     try clear c10
     try clear p2
     obtain⟨x6_2,x24_2,rfl,HA,HK2,HO_6,HO_7,HB⟩:=hrel
     cases gk with
     | zero => exact absurd HA.out (by simp [impl_Update.l0])
     | succ k2 =>
      have H:=HA.out
      clear HA
      simp only [impl_Update.l0] at H
      by_cases c15:x24_2 < (l1.length:Int)
      ·rw [if_pos c15] at H
       have c15b0:decide (x24_2 < (l1.length:Int))=true:=decide_eq_true c15
       clear c15
       by_cases c16:0≤x24_2
       ·rw [if_pos c16] at H
        have c16b0:decide (0≤x24_2)=true:=decide_eq_true c16
        clear c16
        by_cases c17:x24_2 < (l1.length:Int)
        ·rw [if_pos c17] at H
         have c17b0:decide (x24_2 < (l1.length:Int))=true:=decide_eq_true c17
         clear c17
         replace H:=Option.bind_eq_some_iff.mp H
         obtain⟨t125,A180,H⟩:=H
         replace H:(if t125=true then (impl_Update.l0 k2 l0 l1 x6_2 y120 l1 (l1.length:Int) (wrap64 (x24_2+1))) else (if x6_2.length < 8796093022208 then (impl_Update.l0 k2 l0 l1 (x6_2 ++ [(rd_T71 l1 x24_2).f0]) y120 l1 (l1.length:Int) (wrap64 (x24_2+1))) else (none)))=some (r1,r2):=H
         have A18:=Ea A180
         clear A180
         by_cases c19:t125=true
         ·subst c19
          have H1:(impl_Update.l0 k2 l0 l1 x6_2 y120 l1 (l1.length:Int) (wrap64 (x24_2+1)))=some (r1,r2):=by rw [if_pos rfl] at H;exact H
          clear H
          have H:=H1
          clear H1
          have H':=Ea H
          clear H
          have p123:0≤(x24_2:Int):=of_decide_eq_true (by first|(with_reducible assumption)|assumption)
          have q123:x24_2 < (l1.length:Int):=of_decide_eq_true (by first|(with_reducible assumption)|assumption)
          obtain⟨ad123,e123,hx123_0,hx123_1,hx123_2⟩:=at_T71 HR1.out x24_2 p123 q123
          cases e123
          replace hx123_0:=(HB.out.cell (World.block_lt_of_cell? w _ hx123_0)).trans hx123_0
          replace hx123_1:=(HB.out.cell (World.block_lt_of_cell? w _ hx123_1)).trans hx123_1
          replace hx123_2:=(HB.out.cell (World.block_lt_of_cell? w _ hx123_2)).trans hx123_2
          replace p123:=eq_true p123
          replace q123:=eq_true q123
          go_wp2_with (first|((with_reducible refine gate_dst (N:=9) rfl ?_);refine box_event ?hg (N:=9) ?hd (cs:=#[.string (⟨#[]⟩:ByteArray),.int .i64 0,.int .i64 0]) (t:=71) ?hr ?_;(case hd=>rfl);(case hg=>rfl);(case hr=>first|(go_simp;done)|(go_simp;rfl));intro gb124 hg w20 hbox hb;have n0_:=Ea (Kd.R_below (by(with_reducible repeat(first|apply Ef|apply Eg|apply Ed));exact HO_6.out) hb);have n1_:=Ea (Kd.R_below (by(with_reducible repeat(first|apply Ef|apply Eg|apply Ed));exact HO_7.out) hb);have n2_:=Ea (En (by repeat(first|(with_reducible first|exact HB.out|apply Ec|apply Eb|apply Ee)|exact HB.out)) hb);have n3_:=Ea (hbox);have n4_:=Ea ((by rw [hg];exact(Ej (by repeat(first|(with_reducible first|exact HB.out|apply Ec|apply Eb|apply Ee)|exact HB.out))):w.heap.size≤gb124));have n5_:=Ea ((by rw [hg];exact(Ej (by repeat(first|(with_reducible first|exact HB.out|apply Ec|apply Eb|apply Ee)|exact HB.out))):w.heap.size≤gb124));clear HO_6;clear HO_7;clear HB;have HO_6:=n0_;have HO_7:=n1_;have HB:=n2_;have BK124:=n3_;have GW124:=n4_;have GE124:=n5_;clear n0_ n1_ n2_ n3_ n4_ n5_;clear hb hbox hg;have hcz21_0:w20.cell? ⟨gb124,0,none⟩=some (.string (⟨#[]⟩:ByteArray)):=(Ei BK124.out 0).trans rfl;have hcz21_1:w20.cell? ⟨gb124,1,none⟩=some (.int .i64 0):=(Ei BK124.out 1).trans rfl;have hcz21_2:w20.cell? ⟨gb124,2,none⟩=some (.int .i64 0):=(Ei BK124.out 2).trans rfl;have hfz21_0:=Eh BK124.out 0;have hfz21_1:=Eh BK124.out 1;have hfz21_2:=Eh BK124.out 2)|((with_reducible refine gate_callee (f:=72) rfl ?_);refine goesL_ (some 30) rfl rfl Try.func72 (by kernel_rfl) rfl #[.slice A0 l0.length c0,.agg #[.string ((rd_T71 l1 x24_2).f0),.int .i64 ((rd_T71 l1 x24_2).f1),.int .i64 ((rd_T71 l1 x24_2).f2)]] rfl (by(try simp only [List.map_toArray,List.map_cons,List.map_nil]);first|done|rfl|(simp only [List.length_drop,List.length_take];rfl)) ?_;(with_reducible refine(impl_Asset_72.calls k2 _ _ l0 ((rd_T71 l1 x24_2).f0) ((rd_T71 l1 x24_2).f1) ((rd_T71 l1 x24_2).f2) true _ ?side1 ?side2 A18.out).mono ?_);(case side1=>exact Kd.C_below HR0.out (by repeat(first|(with_reducible first|exact HB.out|apply Ec|apply Eb|apply Ee|refine Ek ?_ GE124.out)|exact HB.out)));(case side2=>exact HC0.out);rintro e w22 ⟨rfl,hb⟩;refine⟨_,rfl,?_⟩;have n0_:=Ea (Kd.R_below (by(with_reducible repeat(first|apply Ef|apply Eg|apply Ed));exact(Kd.R_mono (Em (p:=⟨gb124,2,none⟩) (Em (p:=⟨gb124,1,none⟩) (Em (p:=⟨gb124,0,none⟩) (Kd.R_types HO_6.out BK124.out (by decide)) (fun _ hk=>hk.2) (.string ((rd_T71 l1 x24_2).f0))) (fun _ hk=>hk.2) (.int .i64 ((rd_T71 l1 x24_2).f1))) (fun _ hk=>hk.2) (.int .i64 ((rd_T71 l1 x24_2).f2))) (fun _ h_=>h_.1))) hb);have n1_:=Ea (Kd.R_below (by(with_reducible repeat(first|apply Ef|apply Eg|apply Ed));exact(Kd.R_mono (Em (p:=⟨gb124,2,none⟩) (Em (p:=⟨gb124,1,none⟩) (Em (p:=⟨gb124,0,none⟩) (Kd.R_types HO_7.out BK124.out (by decide)) (fun _ hk=>hk.2) (.string ((rd_T71 l1 x24_2).f0))) (fun _ hk=>hk.2) (.int .i64 ((rd_T71 l1 x24_2).f1))) (fun _ hk=>hk.2) (.int .i64 ((rd_T71 l1 x24_2).f2))) (fun _ h_=>h_.1))) hb);have n2_:=Ea (blk_below (g:=gb124) (o:=.cells #[.string ((rd_T71 l1 x24_2).f0),.int .i64 ((rd_T71 l1 x24_2).f1),.int .i64 ((rd_T71 l1 x24_2).f2)] 71 (0,0)) (by(with_reducible repeat(first|refine Eo ?_ _|refine blk_drew ?_|refine El ?_ _));refine blk_put (cs:=#[.string ((rd_T71 l1 x24_2).f0),.int .i64 ((rd_T71 l1 x24_2).f1),.int .i64 0]) ?_ 2 _ rfl;(with_reducible repeat(first|refine Eo ?_ _|refine blk_drew ?_|refine El ?_ _));refine blk_put (cs:=#[.string ((rd_T71 l1 x24_2).f0),.int .i64 0,.int .i64 0]) ?_ 1 _ rfl;(with_reducible repeat(first|refine Eo ?_ _|refine blk_drew ?_|refine El ?_ _));refine blk_put (cs:=#[.string (⟨#[]⟩:ByteArray),.int .i64 0,.int .i64 0]) ?_ 0 _ rfl;(with_reducible repeat(first|refine Eo ?_ _|refine blk_drew ?_|refine El ?_ _));exact BK124.out) hb);have n3_:=Ea (En (by repeat(first|(with_reducible first|exact HB.out|apply Ec|apply Eb|apply Ee|refine Ek ?_ GE124.out)|exact HB.out)) hb);clear HO_6;clear HO_7;clear BK124;clear HB;have HO_6:=n0_;have HO_7:=n1_;have BK124:=n2_;have HB:=n3_;clear n0_ n1_ n2_ n3_;(try clear hb);(try clear hb2);(try clear hk);(try clear hi)))
          go_roundg k2
          case measure=>have:=HJ2.out;have:=HK2.out;omega
          case rel=>exact⟨(x6_2),(wrap64 (x24_2+1)),(by first|rfl|(simp;done)|(simp [*];done)),H',⟨by have:=HJ2.out;have:=HK2.out;omega⟩,⟨by(with_reducible repeat(first|apply Ef|apply Eg|apply Ed));exact HO_6.out⟩,⟨by(with_reducible repeat(first|apply Ef|apply Eg|apply Ed));exact HO_7.out⟩,⟨by repeat(first|(with_reducible first|exact HB.out|apply Ec|apply Eb|apply Ee|refine Ek ?_ GE124.out)|exact HB.out)⟩⟩
         ·replace c19:=Bool.eq_false_iff.mpr c19
          subst c19
          have H1:(if x6_2.length < 8796093022208 then (impl_Update.l0 k2 l0 l1 (x6_2 ++ [(rd_T71 l1 x24_2).f0]) y120 l1 (l1.length:Int) (wrap64 (x24_2+1))) else (none))=some (r1,r2):=by rw [if_neg (show ¬ (false=true) by decide)] at H;exact H
          clear H
          have H:=H1
          clear H1
          by_cases c23:x6_2.length < 8796093022208
          ·rw [if_pos c23] at H
           have LMc23:=Ea c23
           clear c23
           obtain⟨y126,hy126⟩:∃ y_:List ByteArray,y_=(x6_2 ++ [(rd_T71 l1 x24_2).f0]):=⟨_,rfl⟩
           replace H:(impl_Update.l0 k2 l0 l1 y126 y120 l1 (l1.length:Int) (wrap64 (x24_2+1)))=some (r1,r2):=by first|(rw [hy126];with_reducible exact H)|(have H2_:=(Option.bind_some _ _).symm.trans H;rw [hy126];with_reducible exact H2_)|(have H2_:=(Option.bind_some _ _).symm.trans H;with_reducible exact H2_)|with_reducible exact H|(rw [hy126];exact H)|exact H
           have Ny126:=Ea hy126
           clear hy126
           have H':=Ea H
           clear H
           have p123:0≤(x24_2:Int):=of_decide_eq_true (by first|(with_reducible assumption)|assumption)
           have q123:x24_2 < (l1.length:Int):=of_decide_eq_true (by first|(with_reducible assumption)|assumption)
           obtain⟨ad123,e123,hx123_0,hx123_1,hx123_2⟩:=at_T71 HR1.out x24_2 p123 q123
           cases e123
           replace hx123_0:=(HB.out.cell (World.block_lt_of_cell? w _ hx123_0)).trans hx123_0
           replace hx123_1:=(HB.out.cell (World.block_lt_of_cell? w _ hx123_1)).trans hx123_1
           replace hx123_2:=(HB.out.cell (World.block_lt_of_cell? w _ hx123_2)).trans hx123_2
           replace p123:=eq_true p123
           replace q123:=eq_true q123
           go_wp2_with (first|((with_reducible refine gate_dst (N:=9) rfl ?_);refine box_event ?hg (N:=9) ?hd (cs:=#[.string (⟨#[]⟩:ByteArray),.int .i64 0,.int .i64 0]) (t:=71) ?hr ?_;(case hd=>rfl);(case hg=>rfl);(case hr=>first|(go_simp;done)|(go_simp;rfl));intro gb124 hg w24 hbox hb;have n0_:=Ea (Kd.R_below (by(with_reducible repeat(first|apply Ef|apply Eg|apply Ed));exact HO_6.out) hb);have n1_:=Ea (Kd.R_below (by(with_reducible repeat(first|apply Ef|apply Eg|apply Ed));exact HO_7.out) hb);have n2_:=Ea (En (by repeat(first|(with_reducible first|exact HB.out|apply Ec|apply Eb|apply Ee)|exact HB.out)) hb);have n3_:=Ea (hbox);have n4_:=Ea ((by rw [hg];exact(Ej (by repeat(first|(with_reducible first|exact HB.out|apply Ec|apply Eb|apply Ee)|exact HB.out))):w.heap.size≤gb124));have n5_:=Ea ((by rw [hg];exact(Ej (by repeat(first|(with_reducible first|exact HB.out|apply Ec|apply Eb|apply Ee)|exact HB.out))):w.heap.size≤gb124));clear HO_6;clear HO_7;clear HB;have HO_6:=n0_;have HO_7:=n1_;have HB:=n2_;have BK124:=n3_;have GW124:=n4_;have GE124:=n5_;clear n0_ n1_ n2_ n3_ n4_ n5_;clear hb hbox hg;have hcz25_0:w24.cell? ⟨gb124,0,none⟩=some (.string (⟨#[]⟩:ByteArray)):=(Ei BK124.out 0).trans rfl;have hcz25_1:w24.cell? ⟨gb124,1,none⟩=some (.int .i64 0):=(Ei BK124.out 1).trans rfl;have hcz25_2:w24.cell? ⟨gb124,2,none⟩=some (.int .i64 0):=(Ei BK124.out 2).trans rfl;have hfz25_0:=Eh BK124.out 0;have hfz25_1:=Eh BK124.out 1;have hfz25_2:=Eh BK124.out 2)|((with_reducible refine gate_callee (f:=72) rfl ?_);refine goesL_ (some 30) rfl rfl Try.func72 (by kernel_rfl) rfl #[.slice A0 l0.length c0,.agg #[.string ((rd_T71 l1 x24_2).f0),.int .i64 ((rd_T71 l1 x24_2).f1),.int .i64 ((rd_T71 l1 x24_2).f2)]] rfl (by(try simp only [List.map_toArray,List.map_cons,List.map_nil]);first|done|rfl|(simp only [List.length_drop,List.length_take];rfl)) ?_;(with_reducible refine(impl_Asset_72.calls k2 _ _ l0 ((rd_T71 l1 x24_2).f0) ((rd_T71 l1 x24_2).f1) ((rd_T71 l1 x24_2).f2) false _ ?side1 ?side2 A18.out).mono ?_);(case side1=>exact Kd.C_below HR0.out (by repeat(first|(with_reducible first|exact HB.out|apply Ec|apply Eb|apply Ee|refine Ek ?_ GE124.out)|exact HB.out)));(case side2=>exact HC0.out);rintro e w26 ⟨rfl,hb⟩;refine⟨_,rfl,?_⟩;have n0_:=Ea (Kd.R_below (by(with_reducible repeat(first|apply Ef|apply Eg|apply Ed));exact(Kd.R_mono (Em (p:=⟨gb124,2,none⟩) (Em (p:=⟨gb124,1,none⟩) (Em (p:=⟨gb124,0,none⟩) (Kd.R_types HO_6.out BK124.out (by decide)) (fun _ hk=>hk.2) (.string ((rd_T71 l1 x24_2).f0))) (fun _ hk=>hk.2) (.int .i64 ((rd_T71 l1 x24_2).f1))) (fun _ hk=>hk.2) (.int .i64 ((rd_T71 l1 x24_2).f2))) (fun _ h_=>h_.1))) hb);have n1_:=Ea (Kd.R_below (by(with_reducible repeat(first|apply Ef|apply Eg|apply Ed));exact(Kd.R_mono (Em (p:=⟨gb124,2,none⟩) (Em (p:=⟨gb124,1,none⟩) (Em (p:=⟨gb124,0,none⟩) (Kd.R_types HO_7.out BK124.out (by decide)) (fun _ hk=>hk.2) (.string ((rd_T71 l1 x24_2).f0))) (fun _ hk=>hk.2) (.int .i64 ((rd_T71 l1 x24_2).f1))) (fun _ hk=>hk.2) (.int .i64 ((rd_T71 l1 x24_2).f2))) (fun _ h_=>h_.1))) hb);have n2_:=Ea (blk_below (g:=gb124) (o:=.cells #[.string ((rd_T71 l1 x24_2).f0),.int .i64 ((rd_T71 l1 x24_2).f1),.int .i64 ((rd_T71 l1 x24_2).f2)] 71 (0,0)) (by(with_reducible repeat(first|refine Eo ?_ _|refine blk_drew ?_|refine El ?_ _));refine blk_put (cs:=#[.string ((rd_T71 l1 x24_2).f0),.int .i64 ((rd_T71 l1 x24_2).f1),.int .i64 0]) ?_ 2 _ rfl;(with_reducible repeat(first|refine Eo ?_ _|refine blk_drew ?_|refine El ?_ _));refine blk_put (cs:=#[.string ((rd_T71 l1 x24_2).f0),.int .i64 0,.int .i64 0]) ?_ 1 _ rfl;(with_reducible repeat(first|refine Eo ?_ _|refine blk_drew ?_|refine El ?_ _));refine blk_put (cs:=#[.string (⟨#[]⟩:ByteArray),.int .i64 0,.int .i64 0]) ?_ 0 _ rfl;(with_reducible repeat(first|refine Eo ?_ _|refine blk_drew ?_|refine El ?_ _));exact BK124.out) hb);have n3_:=Ea (En (by repeat(first|(with_reducible first|exact HB.out|apply Ec|apply Eb|apply Ee|refine Ek ?_ GE124.out)|exact HB.out)) hb);clear HO_6;clear HO_7;clear BK124;clear HB;have HO_6:=n0_;have HO_7:=n1_;have BK124:=n2_;have HB:=n3_;clear n0_ n1_ n2_ n3_;(try clear hb);(try clear hb2);(try clear hk);(try clear hi);have hcz27_0:w26.cell? ⟨gb124,0,none⟩=some (.string ((rd_T71 l1 x24_2).f0)):=(Ei BK124.out 0).trans rfl;have hcz27_1:w26.cell? ⟨gb124,1,none⟩=some (.int .i64 ((rd_T71 l1 x24_2).f1)):=(Ei BK124.out 1).trans rfl;have hcz27_2:w26.cell? ⟨gb124,2,none⟩=some (.int .i64 ((rd_T71 l1 x24_2).f2)):=(Ei BK124.out 2).trans rfl;have hfz27_0:=Eh BK124.out 0;have hfz27_1:=Eh BK124.out 1;have hfz27_2:=Eh BK124.out 2)|((with_reducible refine gate_builtin (b:=.append) (xs:=#[.tmp 32,.tmp 35]) rfl ?_);at_builtin;refine Kd.R_append Kd.string (w0:=w) w.heap.size rfl (.tmp 32) (.tmp 35) 46 9 (.string ⟨#[]⟩) 16 rfl Try.underlying46 info9 rfl (by decide) (by omega) u6 x6_2 ((rd_T71 l1 x24_2).f0) [.string ((rd_T71 l1 x24_2).f0)] (fun k_=>some k_≠(v121:Value).ownBlock) (fun _=>False) rfl rfl ?aP (fun _ hk=>hk.elim) ?aF ?aO ?aB ?aS ?aL ?_;(case aP=>exact rfl);(case aB=>exact(by repeat(first|(with_reducible first|exact HB.out|apply Ec|apply Eb|apply Ee|refine Ek ?_ GE124.out)|exact HB.out)));(case aF=>exact(fun k_ hk=>Kd.fresh' (Kd.R_lt (by(with_reducible repeat(first|apply Ef|apply Eg|apply Ed));exact HO_7.out)) k_ hk));(case aO=>exact(by(with_reducible repeat(first|apply Ef|apply Eg|apply Ed));exact HO_6.out));(case aS=>exact(Ej (by repeat(first|(with_reducible first|exact HB.out|apply Ec|apply Eb|apply Ee|refine Ek ?_ GE124.out)|exact HB.out))));(case aL=>have:=LMc23.out;omega);intro v127 w28 ho hb hg hat;rw [← Ny126.out] at ho;have n0_:=Ea (Kd.R_after (ok:=(fun _=>True)) (by(with_reducible repeat(first|apply Ef|apply Eg|apply Ed));exact Kd.R_mono HO_7.out (fun _ hk=>⟨trivial,hk⟩)) hg hat);have n1_:=Ea (blk_grown (g:=gb124) (o:=.cells #[.string ((rd_T71 l1 x24_2).f0),.int .i64 ((rd_T71 l1 x24_2).f1),.int .i64 ((rd_T71 l1 x24_2).f2)] 71 (0,0)) (by(with_reducible repeat(first|refine Eo ?_ _|refine blk_drew ?_|refine El ?_ _));exact BK124.out) hg (Kd.R_ne HO_6.out BK124.out (by decide)));have n2_:=Ea (hb);have n3_:=Ea (ho);clear HO_7;clear BK124;clear HB;clear HO_6;have HO_7:=n0_;have BK124:=n1_;have HB:=n2_;have HO128:=n3_;clear n0_ n1_ n2_ n3_;clear ho hb hg hat))
           go_roundg k2
           case measure=>have:=HJ2.out;have:=HK2.out;omega
           case rel=>exact⟨(y126),(wrap64 (x24_2+1)),(by first|rfl|(simp;done)|(simp [*];done)),H',⟨by have:=HJ2.out;have:=HK2.out;omega⟩,⟨by(with_reducible repeat(first|apply Ef|apply Eg|apply Ed));exact HO128.out⟩,⟨by(with_reducible repeat(first|apply Ef|apply Eg|apply Ed));exact Kd.R_mono HO_7.out (fun _ hk=>hk.2)⟩,⟨by repeat(first|(with_reducible first|exact HB.out|apply Ec|apply Eb|apply Ee|refine Ek ?_ GE124.out)|exact HB.out)⟩⟩
          ·rw [if_neg c23] at H
           exact absurd H (by simp)
        ·rw [if_neg c17] at H
         exact absurd H (by simp)
       ·rw [if_neg c16] at H
        exact absurd H (by simp)
      ·rw [if_neg c15] at H
       have c15b0:decide (x24_2 < (l1.length:Int))=false:=decide_eq_false c15
       clear c15
       have H':=Ea H
       clear H
       go_wp2
       go_loopg [7,40] k2 (fun kq v7 v40 w'=>∃ (x7_3:List ByteArray) (x40_3:Int),v40=.int .i64 x40_3∧Aside0 (impl_Update.l1 kq l1 x6_2 x7_3 l0 (l0.length:Int) x40_3=some (r1,r2))∧Aside0 (kq≤k2)∧Aside0 (Kd.R Kd.string 9 w' w.heap.size (fun k_=>some k_≠(v7:Value).ownBlock) u6 x6_2)∧Aside0 (Kd.R Kd.string 9 w' w.heap.size (fun k_=>some k_≠(u6:Value).ownBlock) v7 x7_3)∧Aside0 (Below w.heap.size w w'))
       case atStart=>exact⟨(y120),(0),(by first|rfl|(simp;done)|(simp [*];done)),H',⟨Nat.le_refl _⟩,⟨by(with_reducible repeat(first|apply Ef|apply Eg|apply Ed));exact HO_6.out⟩,⟨by(with_reducible repeat(first|apply Ef|apply Eg|apply Ed));exact HO_7.out⟩,⟨by repeat(first|(with_reducible first|exact HB.out|apply Ec|apply Eb|apply Ee)|exact HB.out)⟩⟩
       case round=>
        clear H'
        try clear c1
        try clear p1
        try clear q1
        try clear hx1
        try clear c2
        try clear p2
        try clear c3
        try clear c5
        try clear p6
        try clear c7
        try clear c10
        try clear p12
        try clear q12
        try clear hx12
        try clear c15
        try clear c15b0
        try clear c16
        try clear c16b0
        try clear c17
        try clear c17b0
        try clear c19
        try clear c23
        try clear c27
        try clear hcz21_0
        try clear hcz21_1
        try clear hcz21_2
        try clear hcz25_0
        try clear hcz25_1
        try clear hcz25_2
        try clear hcz27_0
        try clear hcz27_1
        try clear hcz27_2
        try clear hfz21_0
        try clear hfz21_1
        try clear hfz21_2
        try clear hfz25_0
        try clear hfz25_1
        try clear hfz25_2
        try clear hfz27_0
        try clear hfz27_1
        try clear hfz27_2
        try clear hx123_0
        try clear hx123_1
        try clear hx123_2
        try clear p123
        try clear p2
        try clear q123
        obtain⟨x7_3,x40_3,rfl,HA,HK3,HO_6,HO_7,HB⟩:=hrel
        cases gk with
        | zero => exact absurd HA.out (by simp [impl_Update.l1])
        | succ k3 =>
         have H:=HA.out
         clear HA
         simp only [impl_Update.l1] at H
         by_cases c29:x40_3 < (l0.length:Int)
         ·rw [if_pos c29] at H
          have c29b0:decide (x40_3 < (l0.length:Int))=true:=decide_eq_true c29
          clear c29
          by_cases c30:0≤x40_3
          ·rw [if_pos c30] at H
           have c30b0:decide (0≤x40_3)=true:=decide_eq_true c30
           clear c30
           by_cases c31:x40_3 < (l0.length:Int)
           ·rw [if_pos c31] at H
            have c31b0:decide (x40_3 < (l0.length:Int))=true:=decide_eq_true c31
            clear c31
            replace H:=Option.bind_eq_some_iff.mp H
            obtain⟨t131,A320,H⟩:=H
            replace H:(if t131=true then (impl_Update.l1 k3 l1 x6_2 x7_3 l0 (l0.length:Int) (wrap64 (x40_3+1))) else (if x7_3.length < 8796093022208 then (impl_Update.l1 k3 l1 x6_2 (x7_3 ++ [(rd_T71 l0 x40_3).f0]) l0 (l0.length:Int) (wrap64 (x40_3+1))) else (none)))=some (r1,r2):=H
            have A32:=Ea A320
            clear A320
            by_cases c33:t131=true
            ·subst c33
             have H1:(impl_Update.l1 k3 l1 x6_2 x7_3 l0 (l0.length:Int) (wrap64 (x40_3+1)))=some (r1,r2):=by rw [if_pos rfl] at H;exact H
             clear H
             have H:=H1
             clear H1
             have H':=Ea H
             clear H
             have p129:0≤(x40_3:Int):=of_decide_eq_true (by first|(with_reducible assumption)|assumption)
             have q129:x40_3 < (l0.length:Int):=of_decide_eq_true (by first|(with_reducible assumption)|assumption)
             obtain⟨ad129,e129,hx129_0,hx129_1,hx129_2⟩:=at_T71 HR0.out x40_3 p129 q129
             cases e129
             replace hx129_0:=(HB.out.cell (World.block_lt_of_cell? w _ hx129_0)).trans hx129_0
             replace hx129_1:=(HB.out.cell (World.block_lt_of_cell? w _ hx129_1)).trans hx129_1
             replace hx129_2:=(HB.out.cell (World.block_lt_of_cell? w _ hx129_2)).trans hx129_2
             replace p129:=eq_true p129
             replace q129:=eq_true q129
             go_wp2_with (first|((with_reducible refine gate_dst (N:=11) rfl ?_);refine box_event ?hg (N:=11) ?hd (cs:=#[.string (⟨#[]⟩:ByteArray),.int .i64 0,.int .i64 0]) (t:=71) ?hr ?_;(case hd=>rfl);(case hg=>rfl);(case hr=>first|(go_simp;done)|(go_simp;rfl));intro gb130 hg w34 hbox hb;have n0_:=Ea (Kd.R_below (by(with_reducible repeat(first|apply Ef|apply Eg|apply Ed));exact HO_6.out) hb);have n1_:=Ea (Kd.R_below (by(with_reducible repeat(first|apply Ef|apply Eg|apply Ed));exact HO_7.out) hb);have n2_:=Ea (En (by repeat(first|(with_reducible first|exact HB.out|apply Ec|apply Eb|apply Ee)|exact HB.out)) hb);have n3_:=Ea (hbox);have n4_:=Ea ((by rw [hg];exact(Ej (by repeat(first|(with_reducible first|exact HB.out|apply Ec|apply Eb|apply Ee)|exact HB.out))):w.heap.size≤gb130));have n5_:=Ea ((by rw [hg];exact(Ej (by repeat(first|(with_reducible first|exact HB.out|apply Ec|apply Eb|apply Ee)|exact HB.out))):w.heap.size≤gb130));clear HO_6;clear HO_7;clear HB;have HO_6:=n0_;have HO_7:=n1_;have HB:=n2_;have BK130:=n3_;have GW130:=n4_;have GE130:=n5_;clear n0_ n1_ n2_ n3_ n4_ n5_;clear hb hbox hg;have hcz35_0:w34.cell? ⟨gb130,0,none⟩=some (.string (⟨#[]⟩:ByteArray)):=(Ei BK130.out 0).trans rfl;have hcz35_1:w34.cell? ⟨gb130,1,none⟩=some (.int .i64 0):=(Ei BK130.out 1).trans rfl;have hcz35_2:w34.cell? ⟨gb130,2,none⟩=some (.int .i64 0):=(Ei BK130.out 2).trans rfl;have hfz35_0:=Eh BK130.out 0;have hfz35_1:=Eh BK130.out 1;have hfz35_2:=Eh BK130.out 2)|((with_reducible refine gate_callee (f:=73) rfl ?_);refine goesL_ (some 47) rfl rfl Try.func73 (by kernel_rfl) rfl #[.slice A1 l1.length c1,.string ((rd_T71 l0 x40_3).f0)] rfl (by(try simp only [List.map_toArray,List.map_cons,List.map_nil]);first|done|rfl|(simp only [List.length_drop,List.length_take];rfl)) ?_;(with_reducible refine(impl_named.calls _ _ l1 ((rd_T71 l0 x40_3).f0) true _ ?side1 ?side2 A32.out).mono ?_);(case side1=>exact Kd.C_below HR1.out (by repeat(first|(with_reducible first|exact HB.out|apply Ec|apply Eb|apply Ee|refine Ek ?_ GE130.out)|exact HB.out)));(case side2=>exact HC1.out);rintro e w36 ⟨rfl,hb⟩;refine⟨_,rfl,?_⟩;have n0_:=Ea (Kd.R_below (by(with_reducible repeat(first|apply Ef|apply Eg|apply Ed));exact(Kd.R_mono (Em (p:=⟨gb130,2,none⟩) (Em (p:=⟨gb130,1,none⟩) (Em (p:=⟨gb130,0,none⟩) (Kd.R_types HO_6.out BK130.out (by decide)) (fun _ hk=>hk.2) (.string ((rd_T71 l0 x40_3).f0))) (fun _ hk=>hk.2) (.int .i64 ((rd_T71 l0 x40_3).f1))) (fun _ hk=>hk.2) (.int .i64 ((rd_T71 l0 x40_3).f2))) (fun _ h_=>h_.1))) hb);have n1_:=Ea (Kd.R_below (by(with_reducible repeat(first|apply Ef|apply Eg|apply Ed));exact(Kd.R_mono (Em (p:=⟨gb130,2,none⟩) (Em (p:=⟨gb130,1,none⟩) (Em (p:=⟨gb130,0,none⟩) (Kd.R_types HO_7.out BK130.out (by decide)) (fun _ hk=>hk.2) (.string ((rd_T71 l0 x40_3).f0))) (fun _ hk=>hk.2) (.int .i64 ((rd_T71 l0 x40_3).f1))) (fun _ hk=>hk.2) (.int .i64 ((rd_T71 l0 x40_3).f2))) (fun _ h_=>h_.1))) hb);have n2_:=Ea (blk_below (g:=gb130) (o:=.cells #[.string ((rd_T71 l0 x40_3).f0),.int .i64 ((rd_T71 l0 x40_3).f1),.int .i64 ((rd_T71 l0 x40_3).f2)] 71 (0,0)) (by(with_reducible repeat(first|refine Eo ?_ _|refine blk_drew ?_|refine El ?_ _));refine blk_put (cs:=#[.string ((rd_T71 l0 x40_3).f0),.int .i64 ((rd_T71 l0 x40_3).f1),.int .i64 0]) ?_ 2 _ rfl;(with_reducible repeat(first|refine Eo ?_ _|refine blk_drew ?_|refine El ?_ _));refine blk_put (cs:=#[.string ((rd_T71 l0 x40_3).f0),.int .i64 0,.int .i64 0]) ?_ 1 _ rfl;(with_reducible repeat(first|refine Eo ?_ _|refine blk_drew ?_|refine El ?_ _));refine blk_put (cs:=#[.string (⟨#[]⟩:ByteArray),.int .i64 0,.int .i64 0]) ?_ 0 _ rfl;(with_reducible repeat(first|refine Eo ?_ _|refine blk_drew ?_|refine El ?_ _));exact BK130.out) hb);have n3_:=Ea (En (by repeat(first|(with_reducible first|exact HB.out|apply Ec|apply Eb|apply Ee|refine Ek ?_ GE130.out)|exact HB.out)) hb);clear HO_6;clear HO_7;clear BK130;clear HB;have HO_6:=n0_;have HO_7:=n1_;have BK130:=n2_;have HB:=n3_;clear n0_ n1_ n2_ n3_;(try clear hb);(try clear hb2);(try clear hk);(try clear hi)))
             go_roundg k3
             case measure=>have:=HJ2.out;have:=HK2.out;have:=HK3.out;omega
             case rel=>exact⟨(x7_3),(wrap64 (x40_3+1)),(by first|rfl|(simp;done)|(simp [*];done)),H',⟨by have:=HJ2.out;have:=HK2.out;have:=HK3.out;omega⟩,⟨by(with_reducible repeat(first|apply Ef|apply Eg|apply Ed));exact HO_6.out⟩,⟨by(with_reducible repeat(first|apply Ef|apply Eg|apply Ed));exact HO_7.out⟩,⟨by repeat(first|(with_reducible first|exact HB.out|apply Ec|apply Eb|apply Ee|refine Ek ?_ GE130.out)|exact HB.out)⟩⟩
            ·replace c33:=Bool.eq_false_iff.mpr c33
             subst c33
             have H1:(if x7_3.length < 8796093022208 then (impl_Update.l1 k3 l1 x6_2 (x7_3 ++ [(rd_T71 l0 x40_3).f0]) l0 (l0.length:Int) (wrap64 (x40_3+1))) else (none))=some (r1,r2):=by rw [if_neg (show ¬ (false=true) by decide)] at H;exact H
             clear H
             have H:=H1
             clear H1
             by_cases c37:x7_3.length < 8796093022208
             ·rw [if_pos c37] at H
              have LMc37:=Ea c37
              clear c37
              obtain⟨y132,hy132⟩:∃ y_:List ByteArray,y_=(x7_3 ++ [(rd_T71 l0 x40_3).f0]):=⟨_,rfl⟩
              replace H:(impl_Update.l1 k3 l1 x6_2 y132 l0 (l0.length:Int) (wrap64 (x40_3+1)))=some (r1,r2):=by first|(rw [hy132];with_reducible exact H)|(have H2_:=(Option.bind_some _ _).symm.trans H;rw [hy132];with_reducible exact H2_)|(have H2_:=(Option.bind_some _ _).symm.trans H;with_reducible exact H2_)|with_reducible exact H|(rw [hy132];exact H)|exact H
              have Ny132:=Ea hy132
              clear hy132
              have H':=Ea H
              clear H
              have p129:0≤(x40_3:Int):=of_decide_eq_true (by first|(with_reducible assumption)|assumption)
              have q129:x40_3 < (l0.length:Int):=of_decide_eq_true (by first|(with_reducible assumption)|assumption)
              obtain⟨ad129,e129,hx129_0,hx129_1,hx129_2⟩:=at_T71 HR0.out x40_3 p129 q129
              cases e129
              replace hx129_0:=(HB.out.cell (World.block_lt_of_cell? w _ hx129_0)).trans hx129_0
              replace hx129_1:=(HB.out.cell (World.block_lt_of_cell? w _ hx129_1)).trans hx129_1
              replace hx129_2:=(HB.out.cell (World.block_lt_of_cell? w _ hx129_2)).trans hx129_2
              replace p129:=eq_true p129
              replace q129:=eq_true q129
              go_wp2_with (first|((with_reducible refine gate_dst (N:=11) rfl ?_);refine box_event ?hg (N:=11) ?hd (cs:=#[.string (⟨#[]⟩:ByteArray),.int .i64 0,.int .i64 0]) (t:=71) ?hr ?_;(case hd=>rfl);(case hg=>rfl);(case hr=>first|(go_simp;done)|(go_simp;rfl));intro gb130 hg w38 hbox hb;have n0_:=Ea (Kd.R_below (by(with_reducible repeat(first|apply Ef|apply Eg|apply Ed));exact HO_6.out) hb);have n1_:=Ea (Kd.R_below (by(with_reducible repeat(first|apply Ef|apply Eg|apply Ed));exact HO_7.out) hb);have n2_:=Ea (En (by repeat(first|(with_reducible first|exact HB.out|apply Ec|apply Eb|apply Ee)|exact HB.out)) hb);have n3_:=Ea (hbox);have n4_:=Ea ((by rw [hg];exact(Ej (by repeat(first|(with_reducible first|exact HB.out|apply Ec|apply Eb|apply Ee)|exact HB.out))):w.heap.size≤gb130));have n5_:=Ea ((by rw [hg];exact(Ej (by repeat(first|(with_reducible first|exact HB.out|apply Ec|apply Eb|apply Ee)|exact HB.out))):w.heap.size≤gb130));clear HO_6;clear HO_7;clear HB;have HO_6:=n0_;have HO_7:=n1_;have HB:=n2_;have BK130:=n3_;have GW130:=n4_;have GE130:=n5_;clear n0_ n1_ n2_ n3_ n4_ n5_;clear hb hbox hg;have hcz39_0:w38.cell? ⟨gb130,0,none⟩=some (.string (⟨#[]⟩:ByteArray)):=(Ei BK130.out 0).trans rfl;have hcz39_1:w38.cell? ⟨gb130,1,none⟩=some (.int .i64 0):=(Ei BK130.out 1).trans rfl;have hcz39_2:w38.cell? ⟨gb130,2,none⟩=some (.int .i64 0):=(Ei BK130.out 2).trans rfl;have hfz39_0:=Eh BK130.out 0;have hfz39_1:=Eh BK130.out 1;have hfz39_2:=Eh BK130.out 2)|((with_reducible refine gate_callee (f:=73) rfl ?_);refine goesL_ (some 47) rfl rfl Try.func73 (by kernel_rfl) rfl #[.slice A1 l1.length c1,.string ((rd_T71 l0 x40_3).f0)] rfl (by(try simp only [List.map_toArray,List.map_cons,List.map_nil]);first|done|rfl|(simp only [List.length_drop,List.length_take];rfl)) ?_;(with_reducible refine(impl_named.calls _ _ l1 ((rd_T71 l0 x40_3).f0) false _ ?side1 ?side2 A32.out).mono ?_);(case side1=>exact Kd.C_below HR1.out (by repeat(first|(with_reducible first|exact HB.out|apply Ec|apply Eb|apply Ee|refine Ek ?_ GE130.out)|exact HB.out)));(case side2=>exact HC1.out);rintro e w40 ⟨rfl,hb⟩;refine⟨_,rfl,?_⟩;have n0_:=Ea (Kd.R_below (by(with_reducible repeat(first|apply Ef|apply Eg|apply Ed));exact(Kd.R_mono (Em (p:=⟨gb130,2,none⟩) (Em (p:=⟨gb130,1,none⟩) (Em (p:=⟨gb130,0,none⟩) (Kd.R_types HO_6.out BK130.out (by decide)) (fun _ hk=>hk.2) (.string ((rd_T71 l0 x40_3).f0))) (fun _ hk=>hk.2) (.int .i64 ((rd_T71 l0 x40_3).f1))) (fun _ hk=>hk.2) (.int .i64 ((rd_T71 l0 x40_3).f2))) (fun _ h_=>h_.1))) hb);have n1_:=Ea (Kd.R_below (by(with_reducible repeat(first|apply Ef|apply Eg|apply Ed));exact(Kd.R_mono (Em (p:=⟨gb130,2,none⟩) (Em (p:=⟨gb130,1,none⟩) (Em (p:=⟨gb130,0,none⟩) (Kd.R_types HO_7.out BK130.out (by decide)) (fun _ hk=>hk.2) (.string ((rd_T71 l0 x40_3).f0))) (fun _ hk=>hk.2) (.int .i64 ((rd_T71 l0 x40_3).f1))) (fun _ hk=>hk.2) (.int .i64 ((rd_T71 l0 x40_3).f2))) (fun _ h_=>h_.1))) hb);have n2_:=Ea (blk_below (g:=gb130) (o:=.cells #[.string ((rd_T71 l0 x40_3).f0),.int .i64 ((rd_T71 l0 x40_3).f1),.int .i64 ((rd_T71 l0 x40_3).f2)] 71 (0,0)) (by(with_reducible repeat(first|refine Eo ?_ _|refine blk_drew ?_|refine El ?_ _));refine blk_put (cs:=#[.string ((rd_T71 l0 x40_3).f0),.int .i64 ((rd_T71 l0 x40_3).f1),.int .i64 0]) ?_ 2 _ rfl;(with_reducible repeat(first|refine Eo ?_ _|refine blk_drew ?_|refine El ?_ _));refine blk_put (cs:=#[.string ((rd_T71 l0 x40_3).f0),.int .i64 0,.int .i64 0]) ?_ 1 _ rfl;(with_reducible repeat(first|refine Eo ?_ _|refine blk_drew ?_|refine El ?_ _));refine blk_put (cs:=#[.string (⟨#[]⟩:ByteArray),.int .i64 0,.int .i64 0]) ?_ 0 _ rfl;(with_reducible repeat(first|refine Eo ?_ _|refine blk_drew ?_|refine El ?_ _));exact BK130.out) hb);have n3_:=Ea (En (by repeat(first|(with_reducible first|exact HB.out|apply Ec|apply Eb|apply Ee|refine Ek ?_ GE130.out)|exact HB.out)) hb);clear HO_6;clear HO_7;clear BK130;clear HB;have HO_6:=n0_;have HO_7:=n1_;have BK130:=n2_;have HB:=n3_;clear n0_ n1_ n2_ n3_;(try clear hb);(try clear hb2);(try clear hk);(try clear hi);have hcz41_0:w40.cell? ⟨gb130,0,none⟩=some (.string ((rd_T71 l0 x40_3).f0)):=(Ei BK130.out 0).trans rfl;have hcz41_1:w40.cell? ⟨gb130,1,none⟩=some (.int .i64 ((rd_T71 l0 x40_3).f1)):=(Ei BK130.out 1).trans rfl;have hcz41_2:w40.cell? ⟨gb130,2,none⟩=some (.int .i64 ((rd_T71 l0 x40_3).f2)):=(Ei BK130.out 2).trans rfl;have hfz41_0:=Eh BK130.out 0;have hfz41_1:=Eh BK130.out 1;have hfz41_2:=Eh BK130.out 2)|((with_reducible refine gate_builtin (b:=.append) (xs:=#[.tmp 49,.tmp 52]) rfl ?_);at_builtin;refine Kd.R_append Kd.string (w0:=w) w.heap.size rfl (.tmp 49) (.tmp 52) 46 9 (.string ⟨#[]⟩) 16 rfl Try.underlying46 info9 rfl (by decide) (by omega) u7 x7_3 ((rd_T71 l0 x40_3).f0) [.string ((rd_T71 l0 x40_3).f0)] (fun k_=>some k_≠(u6:Value).ownBlock) (fun _=>False) rfl rfl ?aP (fun _ hk=>hk.elim) ?aF ?aO ?aB ?aS ?aL ?_;(case aP=>exact rfl);(case aB=>exact(by repeat(first|(with_reducible first|exact HB.out|apply Ec|apply Eb|apply Ee|refine Ek ?_ GE130.out)|exact HB.out)));(case aF=>exact(fun k_ hk=>Kd.fresh' (Kd.R_lt (by(with_reducible repeat(first|apply Ef|apply Eg|apply Ed));exact HO_6.out)) k_ hk));(case aO=>exact(by(with_reducible repeat(first|apply Ef|apply Eg|apply Ed));exact HO_7.out));(case aS=>exact(Ej (by repeat(first|(with_reducible first|exact HB.out|apply Ec|apply Eb|apply Ee|refine Ek ?_ GE130.out)|exact HB.out))));(case aL=>have:=LMc37.out;omega);intro v133 w42 ho hb hg hat;rw [← Ny132.out] at ho;have n0_:=Ea (Kd.R_after (ok:=(fun _=>True)) (by(with_reducible repeat(first|apply Ef|apply Eg|apply Ed));exact Kd.R_mono HO_6.out (fun _ hk=>⟨trivial,hk⟩)) hg hat);have n1_:=Ea (blk_grown (g:=gb130) (o:=.cells #[.string ((rd_T71 l0 x40_3).f0),.int .i64 ((rd_T71 l0 x40_3).f1),.int .i64 ((rd_T71 l0 x40_3).f2)] 71 (0,0)) (by(with_reducible repeat(first|refine Eo ?_ _|refine blk_drew ?_|refine El ?_ _));exact BK130.out) hg (Kd.R_ne HO_7.out BK130.out (by decide)));have n2_:=Ea (hb);have n3_:=Ea (ho);clear HO_6;clear BK130;clear HB;clear HO_7;have HO_6:=n0_;have BK130:=n1_;have HB:=n2_;have HO134:=n3_;clear n0_ n1_ n2_ n3_;clear ho hb hg hat))
              go_roundg k3
              case measure=>have:=HJ2.out;have:=HK2.out;have:=HK3.out;omega
              case rel=>exact⟨(y132),(wrap64 (x40_3+1)),(by first|rfl|(simp;done)|(simp [*];done)),H',⟨by have:=HJ2.out;have:=HK2.out;have:=HK3.out;omega⟩,⟨by(with_reducible repeat(first|apply Ef|apply Eg|apply Ed));exact Kd.R_mono HO_6.out (fun _ hk=>hk.2)⟩,⟨by(with_reducible repeat(first|apply Ef|apply Eg|apply Ed));exact HO134.out⟩,⟨by repeat(first|(with_reducible first|exact HB.out|apply Ec|apply Eb|apply Ee|refine Ek ?_ GE130.out)|exact HB.out)⟩⟩
             ·rw [if_neg c37] at H
              exact absurd H (by simp)
           ·rw [if_neg c31] at H
            exact absurd H (by simp)
          ·rw [if_neg c30] at H
           exact absurd H (by simp)
         ·rw [if_neg c29] at H
          have c29b0:decide (x40_3 < (l0.length:Int))=false:=decide_eq_false c29
          clear c29
          simp only [Option.some.injEq,Prod.mk.injEq] at H
          obtain⟨rfl,rfl⟩:=H
          go_wp2
          go_ret2
          exact⟨_,_,by first|rfl|(simp [errW_none,errW_some] <;> rfl)|(simp [*,errW_none,errW_some] <;> rfl),by(with_reducible repeat(first|apply Ef|apply Eg|apply Ed));exact HO_6.out,by(with_reducible repeat(first|apply Ef|apply Eg|apply Ed));exact HO_7.out,by repeat(first|(with_reducible first|exact HB.out|apply Ec|apply Eb|apply Ee)|exact HB.out)⟩

/-! ### impl_stepped: function 54 -/
def impl_stepped.f (a0 : Int) (a1 : Int) : Option (Int) := some (Int.tmod (wrap64 ((wrap64 ((wrap64 (a0 * 257)) + a1)) + 1)) 1000000007)
set_option maxHeartbeats 8000000 in
set_option maxRecDepth 100000 in
theorem impl_stepped.calls (a0 : Int) (a1 : Int) (r : Int) (w : World) (h : impl_stepped.f a0 a1 = some r) :
  Calls Try.prog 54 #[.int .i64 a0,.int .i64 a1] w fun e w'=>e=.returned (.int .i64 r)∧Drawn0 w w':=by
 have H:(some (Int.tmod (wrap64 ((wrap64 ((wrap64 (a0*257))+a1))+1)) 1000000007))=some r:=h
 clear h
 obtain rfl:=Option.some.inj H
 go_enter Try.func54,Try.ntmps54
 go_wp2
 go_ret
 exact⟨by first|rfl|(simp;done)|(simp [*];done),by repeat(first|exact Drawn0.refl _|apply Drawn0.step)⟩

/-! ### impl_Digest: function 15 -/
def impl_Digest.l0 : Nat → Int → List Int → Int → Int → Option (Int)
 | 0, _, _, _, _ => none
 | k + 1, x3, x10, x11, x12 => if x12 < x11 then (if 0 ≤ x12 then (if x12 < (x10.length : Int) then ((impl_stepped.f x3 (wrap64 (rd x10 x12))).bind fun t137 => (impl_Digest.l0 k t137 x10 x11 (wrap64 (x12 + 1)))) else (none)) else (none)) else (some x3)
def impl_Digest.f (k : Nat) (l0 : List Int) : Option (Int) := if 0 ≤ (mn (l0.length : Int) 40000) then (if (mn (l0.length : Int) 40000) ≤ (l0.length : Int) then (impl_Digest.l0 k 0 (l0.take ((mn (l0.length : Int) 40000) : Int).toNat) ((l0.take ((mn (l0.length : Int) 40000) : Int).toNat).length : Int) 0) else (none)) else (none)
theorem impl_Digest.mono_l : ∀ k, (∀ y0 y1 y2 y3, LeO (impl_Digest.l0 k y0 y1 y2 y3) (impl_Digest.l0 (k + 1) y0 y1 y2 y3))
 | 0 => fun _ _ _ _ r h => by simp [impl_Digest.l0] at h
 | k + 1 => by
  have ih0:=impl_Digest.mono_l k
  ·intro y0 y1 y2 y3
   unfold impl_Digest.l0
   repeat' first
   | (with_reducible exact ih0 _ _ _ _)
   | (with_reducible exact LeO.refl _)
   | (with_reducible exact LeO.none _)
   | (with_reducible refine LeO.ite ?_ ?_)
   | (with_reducible refine LeO.bind ?_ (fun _ => ?_))
   | exact ih0 _ _ _ _
   | exact LeO.none _
   | refine LeO.ite ?_ ?_
   | refine LeO.bind ?_ (fun _ => ?_)
theorem impl_Digest.mono : ∀ a0 k, LeO (impl_Digest.f k a0) (impl_Digest.f (k + 1) a0) := by
 intro a0 k
 have ih0:=impl_Digest.mono_l k
 unfold impl_Digest.f
 repeat' first
   | (with_reducible exact ih0 _ _ _ _)
   | (with_reducible exact LeO.refl _)
   | (with_reducible exact LeO.none _)
   | (with_reducible refine LeO.ite ?_ ?_)
   | (with_reducible refine LeO.bind ?_ (fun _ => ?_))
   | exact ih0 _ _ _ _
   | exact LeO.none _
   | refine LeO.ite ?_ ?_
   | refine LeO.bind ?_ (fun _ => ?_)
set_option maxHeartbeats 8000000 in
set_option maxRecDepth 100000 in
theorem impl_Digest.calls (k : Nat) (A0 : Option Addr) (c0 : Nat) (l0 : List Int) (r : Int) (w : World) (hr0 : Kd.C (Kd.int .u8) w A0 l0.length l0) (hc0 : l0.length ≤ c0) (h : impl_Digest.f k l0 = some r) :
  Calls Try.prog 15 #[.slice A0 l0.length c0] w fun e w'=>e=.returned (.int .i64 r)∧Below w.heap.size w w':=by
 have HR0:=Ea hr0
 have HC0:=Ea hc0
 clear hr0 hc0
 have HB:=Ea (Below.refl w.heap.size w)
 have H:(if 0≤(mn (l0.length:Int) 40000) then (if (mn (l0.length:Int) 40000)≤(l0.length:Int) then (impl_Digest.l0 k 0 (l0.take ((mn (l0.length:Int) 40000):Int).toNat) ((l0.take ((mn (l0.length:Int) 40000):Int).toNat).length:Int) 0) else (none)) else (none))=some r:=h
 clear h
 obtain⟨ji2,hji2⟩:∃ j_:Int,(mn (l0.length:Int) 40000)=j_:=⟨_,rfl⟩
 replace H:(if 0≤(ji2) then (if (ji2)≤(l0.length:Int) then (impl_Digest.l0 k 0 (l0.take ((ji2):Int).toNat) ((l0.take ((ji2):Int).toNat).length:Int) 0) else (none)) else (none))=some r:=by first|(rw [hji2] at H;exact H)|(simp only [hji2] at H ⊢;exact H)
 (try(have hji2h:ji2≤40000:=by(rw [← hji2];unfold mn;(repeat' split) <;> omega)))
 (try(have hji2g:ji2≤64:=by omega))
 (try(have hji2l:0≤ji2:=by(rw [← hji2];unfold mn;(repeat' split) <;> omega)))
 (try(have hji2m:0≤ji2:=by omega))
 have hji2_:(if 40000 < (l0.length:Int) then 40000 else (l0.length:Int))=ji2:=hji2
 by_cases c3:0≤(ji2)
 ·rw [if_pos c3] at H
  have c3b0:=eq_true c3
  have c3b1:decide (0≤(ji2))=true:=decide_eq_true c3
  clear c3
  by_cases c4:(ji2)≤(l0.length:Int)
  ·rw [if_pos c4] at H
   have c4b0:=eq_true c4
   have c4b1:decide ((ji2)≤(l0.length:Int))=true:=decide_eq_true c4
   clear c4
   have H':=Ea H
   clear H
   obtain⟨i05,hi05,_,hsz5,_⟩:=info_parts info5
   obtain⟨hcut5,hA5,hC5⟩:=print_take_of (P:=Try.prog) (Value.int .u8) 0 22 5 .i64 Try.underlying22 hi05 hsz5 A0 c0 l0 (ji2) (of_decide_eq_true (by first|(with_reducible assumption)|assumption)) (of_decide_eq_true (by first|(with_reducible assumption)|assumption)) HC0.out
   have HR135:=Ea (Kd.C_of_reads (h1:=fun _=>rfl) (hA5 _ (Kd.reads_of_C HR0.out)))
   have HC135:=Ea hC5
   clear hA5 hC5 hi05 hsz5
   obtain⟨ys,hys⟩:∃ ys,l0.take ((ji2):Int).toNat=ys:=⟨_,rfl⟩
   rw [hys] at H' hcut5 HR135 HC135
   clear hys
   go_enter Try.func15,Try.ntmps15
   go_wp2
   go_loopg [3,12] k (fun kq v3 v12 w'=>∃ (x3_1:Int) (qa:Int),v3=.int .i64 x3_1∧v12=.int .i64 qa∧Aside0 (impl_Digest.l0 kq x3_1 ys (ys.length:Int) qa=some r)∧Aside0 (kq≤k)∧Aside0 (Below w.heap.size w w'))
   case atStart=>exact⟨(0),(0),(by first|rfl|(simp;done)|(simp [*];done)),(by first|rfl|(simp;done)|(simp [*];done)),H',⟨Nat.le_refl _⟩,⟨by repeat(first|(with_reducible first|exact HB.out|apply Ec|apply Eb|apply Ee)|exact HB.out)⟩⟩
   case round=>
    clear H'
    try clear c1
    try clear p2
    try clear c3
    try clear c3b0
    try clear c3b1
    try clear c4
    try clear c4b0
    try clear c4b1
    obtain⟨x3_1,qa,rfl,rfl,HA,HK1,HB⟩:=hrel
    cases gk with
    | zero => exact absurd HA.out (by simp [impl_Digest.l0])
    | succ k1 =>
     have H:=HA.out
     clear HA
     simp only [impl_Digest.l0] at H
     by_cases c6:qa < (ys.length:Int)
     ·rw [if_pos c6] at H
      have c6b0:decide (qa < (ys.length:Int))=true:=decide_eq_true c6
      clear c6
      by_cases c7:0≤qa
      ·rw [if_pos c7] at H
       have c7b0:decide (0≤qa)=true:=decide_eq_true c7
       clear c7
       by_cases c8:qa < (ys.length:Int)
       ·rw [if_pos c8] at H
        have c8b0:decide (qa < (ys.length:Int))=true:=decide_eq_true c8
        clear c8
        replace H:=Option.bind_eq_some_iff.mp H
        obtain⟨t137,A90,H⟩:=H
        replace H:(impl_Digest.l0 k1 t137 ys (ys.length:Int) (wrap64 (qa+1)))=some r:=H
        have A9:=Ea A90
        clear A90
        have H':=Ea H
        clear H
        have p136:0≤(qa:Int):=of_decide_eq_true (by first|(with_reducible assumption)|assumption)
        have q136:qa < (ys.length:Int):=of_decide_eq_true (by first|(with_reducible assumption)|assumption)
        obtain⟨ad136,e136,hx136_0⟩:=Kd.at_int HR135.out qa p136 q136
        cases e136
        replace hx136_0:=(HB.out.cell (World.block_lt_of_cell? w _ hx136_0)).trans hx136_0
        replace p136:=eq_true p136
        replace q136:=eq_true q136
        go_wp2_with (first|((with_reducible refine gate_callee (f:=54) rfl ?_);refine goesL_ (some 19) rfl rfl Try.func54 (by kernel_rfl) rfl #[.int .i64 x3_1,.int .i64 (wrap64 (rd ys qa))] rfl (by(try simp only [List.map_toArray,List.map_cons,List.map_nil]);first|done|(simp only [hji2];rfl)|rfl|(simp only [List.length_drop,List.length_take];rfl)) ?_;(with_reducible refine(impl_stepped.calls x3_1 (wrap64 (rd ys qa)) t137 _ A9.out).mono ?_);rintro e w' ⟨rfl,⟨nd,rfl⟩⟩;refine⟨_,rfl,?_⟩))
        go_roundg k1
        case measure=>have:=HK1.out;omega
        case rel=>exact⟨(t137),(wrap64 (qa+1)),(by first|rfl|(simp;done)|(simp [*];done)),(by first|rfl|(simp;done)|(simp [*];done)),H',⟨by have:=HK1.out;omega⟩,⟨by repeat(first|(with_reducible first|exact HB.out|apply Ec|apply Eb|apply Ee)|exact HB.out)⟩⟩
       ·rw [if_neg c8] at H
        exact absurd H (by simp)
      ·rw [if_neg c7] at H
       exact absurd H (by simp)
     ·rw [if_neg c6] at H
      have c6b0:decide (qa < (ys.length:Int))=false:=decide_eq_false c6
      clear c6
      obtain rfl:=Option.some.inj H
      go_wp2
      go_ret
      exact⟨by first|rfl|(simp [errW_none,errW_some] <;> rfl)|(simp only [← hji2];first|rfl|(simp [errW_none,errW_some] <;> rfl))|(simp [*,errW_none,errW_some] <;> rfl),by repeat(first|(with_reducible first|exact HB.out|apply Ec|apply Eb|apply Ee)|exact HB.out)⟩
  ·rw [if_neg c4] at H
   exact absurd H (by simp)
 ·rw [if_neg c3] at H
  exact absurd H (by simp)

end Go.Proofs.Ytelcpfanjjfgdaa.HFnPacked
