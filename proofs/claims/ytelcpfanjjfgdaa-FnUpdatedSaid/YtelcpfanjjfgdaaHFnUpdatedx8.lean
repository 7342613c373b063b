-- Laid by myprint.py, a program of this repo, out of the kit's printer and this repo's own texts (wip/hand).
import Derived.Test.YtelcpfanjjfgdaaHFnUpdatedx0
import Derived.Test.YtelcpfanjjfgdaaHFnUpdatedx1
import Derived.Test.YtelcpfanjjfgdaaHFnUpdatedx7
namespace Go.Proofs.Ytelcpfanjjfgdaa.HFnUpdated
open Go.RowKit Go.Proofs.YtelcpfanjjfgdaaW.PrintWords Go.Proofs.YtelcpfanjjfgdaaW.PrintLast Go.Proofs.YtelcpfanjjfgdaaW.PrintMore
attribute [local go_sem] max2_int min2_int max_two min_two max_three min_three max_four min_four   -- for this text's walks alone
set_option linter.unusedVariables false
set_option linter.unusedSimpArgs false
theorem Ia : type_of% @Aside0.mk := @Aside0.mk
theorem Ib : type_of% @pw_below_drewN := @pw_below_drewN
theorem Ic : type_of% @below_alloc := @below_alloc
theorem Id : type_of% @below_drew1 := @below_drew1
theorem Ie : type_of% @Kd.R_drew := @Kd.R_drew
theorem If : type_of% @Kd.R_alloc := @Kd.R_alloc
theorem Ig : type_of% @Kd.R_drewN := @Kd.R_drewN
theorem Ih : type_of% @blk_drew := @blk_drew
theorem Ii : type_of% @blk_frozen := @blk_frozen
theorem Ij : type_of% @blk_cell := @blk_cell
theorem Ik : type_of% @below_size := @below_size
theorem Il : type_of% @below_set := @below_set
theorem Im : type_of% @below_step := @below_step
theorem In : type_of% @blk_alloc := @blk_alloc
theorem Io : type_of% @blk_drewN := @blk_drewN
theorem Ip : type_of% @Kd.R_far := @Kd.R_far

attribute [local go_sem high] eqA71
/-! ### impl_Asset_86: function 86 -/
def impl_Asset_86.l0 : Nat → List (S71) → Int → Int → ByteArray → Int → Int → Option (Int)
  | 0, _, _, _, _, _, _ => none
  | k + 1, x0, x7, x8, x145000, x145001, x145002 => if x8 < x7 then (if 0 ≤ x8 then (if x8 < (x0.length : Int) then (if (x145000.toList == (((rd_T71 x0 x8).f0).toList) && (x145001 == ((rd_T71 x0 x8).f1) && (x145002 == ((rd_T71 x0 x8).f2)))) = true then (some x8) else (impl_Asset_86.l0 k x0 x7 (wrap64 (x8 + 1)) x145000 x145001 x145002)) else (none)) else (none)) else (some (-1))
def impl_Asset_86.f (k : Nat) (l0 : List (S71)) (a1_0 : ByteArray) (a1_1 : Int) (a1_2 : Int) : Option (Int) := impl_Asset_86.l0 k l0 (l0.length : Int) 0 a1_0 a1_1 a1_2
theorem impl_Asset_86.mono_l : ∀ k, (∀ y0 y1 y2 y3 y4 y5, LeO (impl_Asset_86.l0 k y0 y1 y2 y3 y4 y5) (impl_Asset_86.l0 (k + 1) y0 y1 y2 y3 y4 y5))
  | 0 => fun _ _ _ _ _ _ r h => by simp [impl_Asset_86.l0] at h
  | k + 1 => by
    have ih0:=impl_Asset_86.mono_l k
    · intro y0 y1 y2 y3 y4 y5
      unfold impl_Asset_86.l0
      repeat' first
      | (with_reducible exact ih0 _ _ _ _ _ _)
      | (with_reducible exact LeO.refl _)
      | (with_reducible exact LeO.none _)
      | (with_reducible refine LeO.ite ?_ ?_)
      | (with_reducible refine LeO.bind ?_ (fun _ => ?_))
      | exact ih0 _ _ _ _ _ _
      | exact LeO.none _
      | refine LeO.ite ?_ ?_
      | refine LeO.bind ?_ (fun _ => ?_)
theorem impl_Asset_86.mono : ∀ a0 a1 a2 a3 k, LeO (impl_Asset_86.f k a0 a1 a2 a3) (impl_Asset_86.f (k + 1) a0 a1 a2 a3) := by
  intro a0 a1 a2 a3 k
  have ih0:=impl_Asset_86.mono_l k
  unfold impl_Asset_86.f
  repeat' first
      | (with_reducible exact ih0 _ _ _ _ _ _)
      | (with_reducible exact LeO.refl _)
      | (with_reducible exact LeO.none _)
      | (with_reducible refine LeO.ite ?_ ?_)
      | (with_reducible refine LeO.bind ?_ (fun _ => ?_))
      | exact ih0 _ _ _ _ _ _
      | exact LeO.none _
      | refine LeO.ite ?_ ?_
      | refine LeO.bind ?_ (fun _ => ?_)
set_option maxHeartbeats 8000000 in
set_option maxRecDepth 100000 in
theorem impl_Asset_86.calls (k : Nat) (A0 : Option Addr) (c0 : Nat) (l0 : List (S71)) (a1_0 : ByteArray) (a1_1 : Int) (a1_2 : Int) (r : Int) (w : World) (hr0 : Kd.C k71 w A0 l0.length l0) (hc0 : l0.length ≤ c0) (h : impl_Asset_86.f k l0 a1_0 a1_1 a1_2 = some r) :
    Calls Try.prog 86 #[.slice A0 l0.length c0,.agg #[.string a1_0,.int .i64 a1_1,.int .i64 a1_2]] w fun e w'=>e=.returned (.int .i64 r)∧Below w.heap.size w w':=by
  have hu71:=Try.underlying71
  have HR0:=Ia hr0
  have HC0:=Ia hc0
  clear hr0 hc0
  have HB:=Ia (Below.refl w.heap.size w)
  have H:(impl_Asset_86.l0 k l0 (l0.length:Int) 0 a1_0 a1_1 a1_2)=some r:=h
  clear h
  have H':=Ia H
  clear H
  go_enter Try.func86,Try.ntmps86
  go_wp2_with (first|((with_reducible refine gate_dst (N:=3) rfl ?_);refine box_event ?hg (N:=3) ?hd (cs:=#[.string a1_0,.int .i64 a1_1,.int .i64 a1_2]) (t:=71) ?hr ?_;(case hd=>rfl);(case hg=>rfl);(case hr=>first|(go_simp;done)|(go_simp;rfl));intro gb144 hg w3 hbox hb;have n0_:=Ia (Im (by repeat(first|(with_reducible first|exact HB.out|apply Ic|apply Ib|apply Id)|exact HB.out)) hb);have n1_:=Ia (hbox);have n2_:=Ia ((by rw [hg];exact(Ik (by repeat(first|(with_reducible first|exact HB.out|apply Ic|apply Ib|apply Id)|exact HB.out))):w.heap.size≤gb144));have n3_:=Ia ((by rw [hg];exact(Ik (by repeat(first|(with_reducible first|exact HB.out|apply Ic|apply Ib|apply Id)|exact HB.out))):w.heap.size≤gb144));clear HB;have HB:=n0_;have BK144:=n1_;have GW144:=n2_;have GE144:=n3_;clear n0_ n1_ n2_ n3_;clear hb hbox hg))
  repeat(go_quiet (first|((with_reducible refine gate_dst (N:=3) rfl ?_);refine box_event ?hg (N:=3) ?hd (cs:=#[.string a1_0,.int .i64 a1_1,.int .i64 a1_2]) (t:=71) ?hr ?_;(case hd=>rfl);(case hg=>rfl);(case hr=>first|(go_simp;done)|(go_simp;rfl));intro gb144 hg w3 hbox hb;have n0_:=Ia (Im (by repeat(first|(with_reducible first|exact HB.out|apply Ic|apply Ib|apply Id)|exact HB.out)) hb);have n1_:=Ia (hbox);have n2_:=Ia ((by rw [hg];exact(Ik (by repeat(first|(with_reducible first|exact HB.out|apply Ic|apply Ib|apply Id)|exact HB.out))):w.heap.size≤gb144));have n3_:=Ia ((by rw [hg];exact(Ik (by repeat(first|(with_reducible first|exact HB.out|apply Ic|apply Ib|apply Id)|exact HB.out))):w.heap.size≤gb144));clear HB;have HB:=n0_;have BK144:=n1_;have GW144:=n2_;have GE144:=n3_;clear n0_ n1_ n2_ n3_;clear hb hbox hg));try go_wp2_with (first|((with_reducible refine gate_dst (N:=3) rfl ?_);refine box_event ?hg (N:=3) ?hd (cs:=#[.string a1_0,.int .i64 a1_1,.int .i64 a1_2]) (t:=71) ?hr ?_;(case hd=>rfl);(case hg=>rfl);(case hr=>first|(go_simp;done)|(go_simp;rfl));intro gb144 hg w3 hbox hb;have n0_:=Ia (Im (by repeat(first|(with_reducible first|exact HB.out|apply Ic|apply Ib|apply Id)|exact HB.out)) hb);have n1_:=Ia (hbox);have n2_:=Ia ((by rw [hg];exact(Ik (by repeat(first|(with_reducible first|exact HB.out|apply Ic|apply Ib|apply Id)|exact HB.out))):w.heap.size≤gb144));have n3_:=Ia ((by rw [hg];exact(Ik (by repeat(first|(with_reducible first|exact HB.out|apply Ic|apply Ib|apply Id)|exact HB.out))):w.heap.size≤gb144));clear HB;have HB:=n0_;have BK144:=n1_;have GW144:=n2_;have GE144:=n3_;clear n0_ n1_ n2_ n3_;clear hb hbox hg)))
  go_loopg [8] k (fun kq v8 w'=>∃ (x8_1:Int),v8=.int .i64 x8_1∧Aside0 (impl_Asset_86.l0 kq l0 (l0.length:Int) x8_1 a1_0 a1_1 a1_2=some r)∧Aside0 (kq≤k)∧Aside0 (w'.heap[gb144]? = some (.cells #[.string a1_0,.int .i64 a1_1,.int .i64 a1_2] 71 (0,0)))∧Aside0 (Below w.heap.size w w'))
  case atStart=>exact⟨(0),(by first|rfl|(simp;done)|(simp [*];done)),H',⟨Nat.le_refl _⟩,⟨by(with_reducible repeat(first|refine Io ?_ _|refine Ih ?_|refine In ?_ _));exact BK144.out⟩,⟨by repeat(first|(with_reducible first|exact HB.out|apply Ic|apply Ib|apply Id|refine Il ?_ GE144.out)|exact HB.out)⟩⟩
  case round=>
    clear H'
    try clear p2
    obtain⟨x8_1,rfl,HA,HK1,BK144,HB⟩:=hrel
    cases gk with
    | zero => exact absurd HA.out (by simp [impl_Asset_86.l0])
    | succ k1 =>
      have H:=HA.out
      clear HA
      simp only [impl_Asset_86.l0] at H
      by_cases c4:x8_1 < (l0.length:Int)
      · rw [if_pos c4] at H
        have c4b0:decide (x8_1 < (l0.length:Int))=true:=decide_eq_true c4
        clear c4
        by_cases c5:0≤x8_1
        · rw [if_pos c5] at H
          have c5b0:decide (0≤x8_1)=true:=decide_eq_true c5
          clear c5
          by_cases c6:x8_1 < (l0.length:Int)
          · rw [if_pos c6] at H
            have c6b0:decide (x8_1 < (l0.length:Int))=true:=decide_eq_true c6
            clear c6
            by_cases c7:(a1_0.toList == (((rd_T71 l0 x8_1).f0).toList) && (a1_1 == ((rd_T71 l0 x8_1).f1) && (a1_2 == ((rd_T71 l0 x8_1).f2))))=true
            · rw [if_pos c7] at H
              have c7b0:(a1_0.toList == (((rd_T71 l0 x8_1).f0).toList) && (a1_1 == ((rd_T71 l0 x8_1).f1) && (a1_2 == ((rd_T71 l0 x8_1).f2))))=true:=c7
              (try(have c7b1:decide (a1_0.toList=(((rd_T71 l0 x8_1).f0).toList) && (a1_1 == ((rd_T71 l0 x8_1).f1) && (a1_2 == ((rd_T71 l0 x8_1).f2))))=true:=by simpa using c7))
              (try(have c7b2:(a1_0.toList == (((rd_T71 l0 x8_1).f0).toList) && (a1_1 == ((rd_T71 l0 x8_1).f1) && (a1_2 == ((rd_T71 l0 x8_1).f2))))=true:=by simpa using c7))
              clear c7
              obtain rfl:=Option.some.inj H
              have hcz8_0:wr.cell? ⟨gb144,0,none⟩=some (.string a1_0):=(Ij BK144.out 0).trans rfl
              have hcz8_1:wr.cell? ⟨gb144,1,none⟩=some (.int .i64 a1_1):=(Ij BK144.out 1).trans rfl
              have hcz8_2:wr.cell? ⟨gb144,2,none⟩=some (.int .i64 a1_2):=(Ij BK144.out 2).trans rfl
              have hfz8_0:=Ii BK144.out 0
              have hfz8_1:=Ii BK144.out 1
              have hfz8_2:=Ii BK144.out 2
              have p145:0≤(x8_1:Int):=of_decide_eq_true (by first|(with_reducible assumption)|assumption)
              have q145:x8_1 < (l0.length:Int):=of_decide_eq_true (by first|(with_reducible assumption)|assumption)
              obtain⟨ad145,e145,hx145_0,hx145_1,hx145_2⟩:=at_T71 HR0.out x8_1 p145 q145
              cases e145
              replace hx145_0:=(HB.out.cell (World.block_lt_of_cell? w _ hx145_0)).trans hx145_0
              replace hx145_1:=(HB.out.cell (World.block_lt_of_cell? w _ hx145_1)).trans hx145_1
              replace hx145_2:=(HB.out.cell (World.block_lt_of_cell? w _ hx145_2)).trans hx145_2
              replace p145:=eq_true p145
              replace q145:=eq_true q145
              go_wp2
              repeat(go_quiet (fail);try go_wp2)
              go_ret
              exact⟨by first|rfl|(simp [errW_none,errW_some] <;> rfl)|(simp [*,errW_none,errW_some] <;> rfl),by repeat(first|(with_reducible first|exact HB.out|apply Ic|apply Ib|apply Id|refine Il ?_ GE144.out)|exact HB.out)⟩
            · rw [if_neg c7] at H
              have c7b0:(a1_0.toList == (((rd_T71 l0 x8_1).f0).toList) && (a1_1 == ((rd_T71 l0 x8_1).f1) && (a1_2 == ((rd_T71 l0 x8_1).f2))))=false:=by simpa using c7
              (try(have c7b1:decide (a1_0.toList=(((rd_T71 l0 x8_1).f0).toList) && (a1_1 == ((rd_T71 l0 x8_1).f1) && (a1_2 == ((rd_T71 l0 x8_1).f2))))=false:=by simpa using c7))
              (try(have c7b2:(a1_0.toList == (((rd_T71 l0 x8_1).f0).toList) && (a1_1 == ((rd_T71 l0 x8_1).f1) && (a1_2 == ((rd_T71 l0 x8_1).f2))))=false:=by simpa using c7))
              (try(have c7b3 : ¬ (a1_0.toList=(((rd_T71 l0 x8_1).f0).toList) && (a1_1 == ((rd_T71 l0 x8_1).f1) && (a1_2 == ((rd_T71 l0 x8_1).f2)))):=by simpa using c7))
              clear c7
              have H':=Ia H
              clear H
              have hcz9_0:wr.cell? ⟨gb144,0,none⟩=some (.string a1_0):=(Ij BK144.out 0).trans rfl
              have hcz9_1:wr.cell? ⟨gb144,1,none⟩=some (.int .i64 a1_1):=(Ij BK144.out 1).trans rfl
              have hcz9_2:wr.cell? ⟨gb144,2,none⟩=some (.int .i64 a1_2):=(Ij BK144.out 2).trans rfl
              have hfz9_0:=Ii BK144.out 0
              have hfz9_1:=Ii BK144.out 1
              have hfz9_2:=Ii BK144.out 2
              have p145:0≤(x8_1:Int):=of_decide_eq_true (by first|(with_reducible assumption)|assumption)
              have q145:x8_1 < (l0.length:Int):=of_decide_eq_true (by first|(with_reducible assumption)|assumption)
              obtain⟨ad145,e145,hx145_0,hx145_1,hx145_2⟩:=at_T71 HR0.out x8_1 p145 q145
              cases e145
              replace hx145_0:=(HB.out.cell (World.block_lt_of_cell? w _ hx145_0)).trans hx145_0
              replace hx145_1:=(HB.out.cell (World.block_lt_of_cell? w _ hx145_1)).trans hx145_1
              replace hx145_2:=(HB.out.cell (World.block_lt_of_cell? w _ hx145_2)).trans hx145_2
              replace p145:=eq_true p145
              replace q145:=eq_true q145
              go_wp2
              repeat(go_quiet (fail);try go_wp2)
              go_roundg k1
              case measure=>have:=HK1.out;omega
              case rel=>exact⟨(wrap64 (x8_1+1)),(by first|rfl|(simp;done)|(simp [*];done)),H',⟨by have:=HK1.out;omega⟩,⟨by(with_reducible repeat(first|refine Io ?_ _|refine Ih ?_|refine In ?_ _));exact BK144.out⟩,⟨by repeat(first|(with_reducible first|exact HB.out|apply Ic|apply Ib|apply Id|refine Il ?_ GE144.out)|exact HB.out)⟩⟩
          · rw [if_neg c6] at H
            exact absurd H (by simp)
        · rw [if_neg c5] at H
          exact absurd H (by simp)
      · rw [if_neg c4] at H
        have c4b0:decide (x8_1 < (l0.length:Int))=false:=decide_eq_false c4
        clear c4
        obtain rfl:=Option.some.inj H
        go_wp2
        repeat(go_quiet (fail);try go_wp2)
        go_ret
        exact⟨by first|rfl|(simp [errW_none,errW_some] <;> rfl)|(simp [*,errW_none,errW_some] <;> rfl),by repeat(first|(with_reducible first|exact HB.out|apply Ic|apply Ib|apply Id|refine Il ?_ GE144.out)|exact HB.out)⟩

/-! ### impl_Asset_72: function 72 -/
def impl_Asset_72.f (k : Nat) (l0 : List (S71)) (a1_0 : ByteArray) (a1_1 : Int) (a1_2 : Int) : Option (Bool) := (impl_Asset_86.f k l0 a1_0 a1_1 a1_2).bind fun t147 => (some (decide (t147 ≥ 0)))
theorem impl_Asset_72.mono : ∀ a0 a1 a2 a3 k, LeO (impl_Asset_72.f k a0 a1 a2 a3) (impl_Asset_72.f (k + 1) a0 a1 a2 a3) := by
  intro a0 a1 a2 a3 k
  unfold impl_Asset_72.f
  repeat' first
      | (with_reducible exact impl_Asset_86.mono _ _ _ _ _)
      | (with_reducible exact LeO.refl _)
      | (with_reducible exact LeO.none _)
      | (with_reducible refine LeO.ite ?_ ?_)
      | (with_reducible refine LeO.bind ?_ (fun _ => ?_))
      | exact impl_Asset_86.mono _ _ _ _ _
      | exact LeO.none _
      | refine LeO.ite ?_ ?_
      | refine LeO.bind ?_ (fun _ => ?_)
set_option maxHeartbeats 8000000 in
set_option maxRecDepth 100000 in
theorem impl_Asset_72.calls (k : Nat) (A0 : Option Addr) (c0 : Nat) (l0 : List (S71)) (a1_0 : ByteArray) (a1_1 : Int) (a1_2 : Int) (r : Bool) (w : World) (hr0 : Kd.C k71 w A0 l0.length l0) (hc0 : l0.length ≤ c0) (h : impl_Asset_72.f k l0 a1_0 a1_1 a1_2 = some r) :
    Calls Try.prog 72 #[.slice A0 l0.length c0,.agg #[.string a1_0,.int .i64 a1_1,.int .i64 a1_2]] w fun e w'=>e=.returned (.bool r)∧Below w.heap.size w w':=by
  have hu71:=Try.underlying71
  have HR0:=Ia hr0
  have HC0:=Ia hc0
  clear hr0 hc0
  have HB:=Ia (Below.refl w.heap.size w)
  have H:((impl_Asset_86.f k l0 a1_0 a1_1 a1_2).bind fun t147=>(some (decide (t147 ≥ 0))))=some r:=h
  clear h
  replace H:=Option.bind_eq_some_iff.mp H
  obtain⟨t147,A30,H⟩:=H
  replace H:(some (decide (t147 ≥ 0)))=some r:=H
  have A3:=Ia A30
  clear A30
  obtain rfl:=Option.some.inj H
  go_enter Try.func72,Try.ntmps72
  go_wp2_with (first|((with_reducible refine gate_dst (N:=3) rfl ?_);refine box_event ?hg (N:=3) ?hd (cs:=#[.string a1_0,.int .i64 a1_1,.int .i64 a1_2]) (t:=71) ?hr ?_;(case hd=>rfl);(case hg=>rfl);(case hr=>first|(go_simp;done)|(go_simp;rfl));intro gb146 hg w4 hbox hb;have n0_:=Ia (Im (by repeat(first|(with_reducible first|exact HB.out|apply Ic|apply Ib|apply Id)|exact HB.out)) hb);have n1_:=Ia (hbox);have n2_:=Ia ((by rw [hg];exact(Ik (by repeat(first|(with_reducible first|exact HB.out|apply Ic|apply Ib|apply Id)|exact HB.out))):w.heap.size≤gb146));have n3_:=Ia ((by rw [hg];exact(Ik (by repeat(first|(with_reducible first|exact HB.out|apply Ic|apply Ib|apply Id)|exact HB.out))):w.heap.size≤gb146));clear HB;have HB:=n0_;have BK146:=n1_;have GW146:=n2_;have GE146:=n3_;clear n0_ n1_ n2_ n3_;clear hb hbox hg;have hcz5_0:w4.cell? ⟨gb146,0,none⟩=some (.string a1_0):=(Ij BK146.out 0).trans rfl;have hcz5_1:w4.cell? ⟨gb146,1,none⟩=some (.int .i64 a1_1):=(Ij BK146.out 1).trans rfl;have hcz5_2:w4.cell? ⟨gb146,2,none⟩=some (.int .i64 a1_2):=(Ij BK146.out 2).trans rfl;have hfz5_0:=Ii BK146.out 0;have hfz5_1:=Ii BK146.out 1;have hfz5_2:=Ii BK146.out 2)|((with_reducible refine gate_callee (f:=86) rfl ?_);refine goesL_ (some 7) rfl rfl Try.func86 (by kernel_rfl) rfl #[.slice A0 l0.length c0,.agg #[.string a1_0,.int .i64 a1_1,.int .i64 a1_2]] rfl (by(try simp only [List.map_toArray,List.map_cons,List.map_nil]);first|done|rfl|(simp only [List.length_drop,List.length_take];rfl)) ?_;(with_reducible refine(impl_Asset_86.calls k _ _ l0 a1_0 a1_1 a1_2 t147 _ ?side1 ?side2 A3.out).mono ?_);(case side1=>repeat(first|exact(Kd.C_below HR0.out HB.out)|(with_reducible refine Kd.C_alloc ?_ _)|(with_reducible refine Kd.C_drewN ?_ _)|(with_reducible refine Kd.C_drew ?_)));(case side2=>exact HC0.out);rintro e w6 ⟨rfl,hb⟩;refine⟨_,rfl,?_⟩;have n0_:=Ia (blk_below (g:=gb146) (o:=.cells #[.string a1_0,.int .i64 a1_1,.int .i64 a1_2] 71 (0,0)) (by(with_reducible repeat(first|refine Io ?_ _|refine Ih ?_|refine In ?_ _));exact BK146.out) hb);have n1_:=Ia (Im (by repeat(first|(with_reducible first|exact HB.out|apply Ic|apply Ib|apply Id|refine Il ?_ GE146.out)|exact HB.out)) hb);clear BK146;clear HB;have BK146:=n0_;have HB:=n1_;clear n0_ n1_;(try clear hb);(try clear hb2);(try clear hk);(try clear hi)))
  go_ret
  exact⟨by first|rfl|(simp [errW_none,errW_some] <;> rfl)|(simp [*,errW_none,errW_some] <;> rfl),by repeat(first|(with_reducible first|exact HB.out|apply Ic|apply Ib|apply Id|refine Il ?_ GE146.out)|exact HB.out)⟩

-- NOT PRINTED: function 88 (impl_named_1)

/-! ### impl_named: function 73 -/
def nmd_idx (s : ByteArray) : List S71 → Int → Int
  | [], _ => -1
  | x :: xs, i => if x.f0 = s then i else nmd_idx s xs (i + 1)
theorem nmd_any (s : ByteArray) : ∀ (l : List S71) (i : Int), 0 ≤ i → decide (0 ≤ nmd_idx s l i) = l.any fun x => decide (x.f0 = s)
  | [], i, _ => by simp [nmd_idx]
  | x :: xs, i, h => by
    rw [nmd_idx,List.any_cons]
    by_cases e:x.f0=s
    · rw [if_pos e,decide_eq_true h,decide_eq_true e,Bool.true_or]
    · rw [if_neg e,decide_eq_false e,Bool.false_or]
      exact nmd_any s xs (i+1) (by omega)
set_option maxHeartbeats 4000000 in
set_option maxRecDepth 100000 in
theorem nmd_lit (x : ByteArray) (y z : Int) (s : ByteArray) (g : Nat) (w : World) (hg : w.heap[g]? = some (.cells #[.string s] 9 (0, 0))) :
    Calls Try.prog 88 #[.agg #[.string x,.int .i64 y,.int .i64 z],.pointer (some ⟨g,0,none⟩)] w fun e w'=>e=.returned (.bool (decide (x=s)))∧Below w.heap.size w w':=by
  have hu:=Try.underlying71
  have hk:w.cell? ⟨g,0,none⟩=some (.string s):=(Ij hg 0).trans rfl
  have hne:=blk_lt hg
  go_enter Try.func88,Try.ntmps88
  go_wp2
  go_ret
  refine⟨?_,Ic (Below.refl _ _) _⟩
  by_cases e:x=s
  · subst e;simp
  · have:(x.toList == s.toList)=false:=by
      rw [beq_eq_false_iff_ne]
      intro h
      rw [ByteArray.toList_eq,ByteArray.toList_eq] at h
      exact e (ByteArray.ext (Array.toList_inj.mp h))
    simp [e,this]
set_option maxHeartbeats 4000000 in
set_option maxRecDepth 100000 in
theorem nmd_index (s : ByteArray) (g : Nat) (A0 : Option Addr) (c0 : Nat) (l0 : List S71) (w : World) (hr0 : Kd.C k71 w A0 l0.length l0) (hc0 : l0.length ≤ c0) (hg : w.heap[g]? = some (.cells #[.string s] 9 (0, 0))) :
    Calls Try.prog 93 #[.slice A0 l0.length c0,.func (.func 88) #[] #[.pointer (some ⟨g,0,none⟩)]] w fun e w'=>e=.returned (.int .i64 (nmd_idx s l0 0))∧Below w.heap.size w w':=by
  have HR0:=Ia hr0
  have HC0:=Ia hc0
  have HM:=Ia hr0.2.1
  have HG:=Ia hg
  clear hr0 hc0 hg
  obtain⟨r,hr⟩:∃ r,r=nmd_idx s l0 0:=⟨_,rfl⟩
  rw [← hr]
  have H:=Ia hr.symm
  clear hr
  go_enter Try.func93,Try.ntmps93
  go_wp2
  go_loopg [5,8] l0.length (fun gg _ v8 w'=>∃ kk:Nat,Aside0 (kk≤l0.length∧l0.length - kk≤gg)∧v8=.int .i64 (kk:Int)∧Aside0 (nmd_idx s (l0.drop kk) (kk:Int)=r)∧Aside0 (Below w.heap.size w w'))
  case atStart=>exact⟨0,⟨Nat.zero_le _,Nat.le_refl _⟩,rfl,H,⟨Below.refl _ _⟩⟩
  case round=>
    obtain⟨kk,HK,rfl,HI,HB⟩:=hrel
    by_cases hlt:kk < l0.length
    · obtain⟨ad,e,hx0,hx1,hx2⟩:=at_T71 HR0.out (kk:Int) (by omega) (by omega)
      cases e
      replace hx0:=(HB.out.cell (World.block_lt_of_cell? w _ hx0)).trans hx0
      replace hx1:=(HB.out.cell (World.block_lt_of_cell? w _ hx1)).trans hx1
      replace hx2:=(HB.out.cell (World.block_lt_of_cell? w _ hx2)).trans hx2
      simp only [Int.toNat_natCast] at hx0 hx1 hx2
      have HI2:(if (rd_T71 l0 (kk:Int)).f0=s then (kk:Int) else nmd_idx s (l0.drop (kk+1)) ((kk:Int)+1))=r:=by
        have:=HI.out
        rw [List.drop_eq_getElem_cons hlt] at this
        have e:l0[kk]=rd_T71 l0 (kk:Int):=by simp [rd_T71,List.getD_eq_getElem?_getD,List.getElem?_eq_getElem hlt]
        rw [e] at this
        exact this
      have HI4:=Ia HI2
      clear HI2
      have hltb:decide ((kk:Int) < (l0.length:Int))=true:=decide_eq_true (by omega)
      have HM2:l0.length≤9223372036854775807:=HM.out
      have p0:(0≤(kk:Int))=True:=eq_true (by omega)
      have q0:((kk:Int) < (l0.length:Int))=True:=eq_true (by omega)
      have HGW:=Ia (blk_below HG.out HB.out)
      by_cases hE:(rd_T71 l0 (kk:Int)).f0=s
      · have hd:decide ((rd_T71 l0 (kk:Int)).f0=s)=true:=decide_eq_true hE
        have HI5:(kk:Int)=r:=by have:=HI4.out;rwa [if_pos hE] at this
        subst HI5
        clear hE
        go_wp2_with (go_at_call 88;refine(nmd_lit _ _ _ s g _ HGW.out).mono ?_;rintro e w' ⟨rfl,hb'⟩)
        go_ret
        exact⟨rfl,below_then HB.out (Ik HB.out) hb'⟩
      · have hd:decide ((rd_T71 l0 (kk:Int)).f0=s)=false:=decide_eq_false hE
        have HI6:=Ia (show nmd_idx s (l0.drop (kk+1)) ((kk:Int)+1)=r by have:=HI4.out;rwa [if_neg hE] at this)
        clear hE
        go_wp2_with (go_at_call 88;refine(nmd_lit _ _ _ s g _ HGW.out).mono ?_;rintro e w' ⟨rfl,hb'⟩)
        go_roundg (l0.length - (kk+1))
        case measure=>have:=HK.out;omega
        case rel=>exact⟨kk+1,⟨by omega,by omega⟩,by go_num,⟨by have:=HI6.out;simpa using this⟩,⟨below_then HB.out (Ik HB.out) hb'⟩⟩
    · have hltb:decide ((kk:Int) < (l0.length:Int))=false:=decide_eq_false (by omega)
      have HI5:(-1:Int)=r:=by
        have:=HI.out
        rwa [List.drop_of_length_le (by omega)] at this
      subst HI5
      go_wp2
      go_ret
      exact⟨rfl,HB.out⟩
set_option maxHeartbeats 4000000 in
theorem nmd_contains (s : ByteArray) (g : Nat) (A0 : Option Addr) (c0 : Nat) (l0 : List S71) (w : World) (hr0 : Kd.C k71 w A0 l0.length l0) (hc0 : l0.length ≤ c0) (hg : w.heap[g]? = some (.cells #[.string s] 9 (0, 0))) :
    Calls Try.prog 87 #[.slice A0 l0.length c0,.func (.func 88) #[] #[.pointer (some ⟨g,0,none⟩)]] w fun e w'=>e=.returned (.bool (l0.any fun x=>decide (x.f0=s)))∧Below w.heap.size w w':=by
  have HR0:=Ia hr0
  have HC0:=Ia hc0
  have HG:=Ia hg
  clear hr0 hc0 hg
  rw [← nmd_any s l0 0 (Int.le_refl _)]
  go_enter Try.func87,Try.ntmps87
  go_wp2_with (go_at_call 93;refine(nmd_index s g _ _ l0 _ HR0.out HC0.out HG.out).mono ?_;rintro e w' ⟨rfl,hb⟩)
  go_ret
  exact⟨by simp [ge_iff_le],hb⟩
def impl_named.f (l0 : List S71) (a1 : ByteArray) : Option Bool := some (l0.any fun x => decide (x.f0 = a1))
set_option maxHeartbeats 4000000 in
theorem impl_named.calls (A0 : Option Addr) (c0 : Nat) (l0 : List (S71)) (a1 : ByteArray) (r : Bool) (w : World) (hr0 : Kd.C k71 w A0 l0.length l0) (hc0 : l0.length ≤ c0) (h : impl_named.f l0 a1 = some r) :
    Calls Try.prog 73 #[.slice A0 l0.length c0,.string a1] w fun e w'=>e=.returned (.bool r)∧Below w.heap.size w w':=by
  have HR0:=Ia (Kd.C_below hr0 (Ic (Below.refl _ _) (.cells #[.string a1] 9 (0,0))))
  have HC0:=Ia hc0
  clear hr0 hc0
  obtain rfl:=Option.some.inj h
  clear h
  have HG:=Ia (Go.Deep.blk_alloc_new w (.cells #[.string a1] 9 (0,0)))
  have HB:=Ia (Ic (Below.refl w.heap.size w) (.cells #[.string a1] 9 (0,0)))
  go_enter Try.func73,Try.ntmps73
  go_wp2_with (go_at_call 87;refine(nmd_contains a1 _ _ _ l0 _ HR0.out HC0.out HG.out).mono ?_;rintro e w' ⟨rfl,hb⟩)
  go_ret
  exact⟨rfl,Im HB.out hb⟩


/-! ### impl_Update: function 32 -/
mutual
def impl_Update.j0 : Nat → List (S71) → List (S71) → Bool → Option (List ByteArray × List ByteArray)
  | 0, _, _, _ => none
  | k + 1, x0, x1, x19 => if x19 = true then (some (([] : List ByteArray), ([] : List ByteArray))) else (impl_Update.l0 k x0 x1 (([] : List ByteArray)) (([] : List ByteArray)) x1 (x1.length : Int) 0)
def impl_Update.l0 : Nat → List (S71) → List (S71) → List ByteArray → List ByteArray → List (S71) → Int → Int → Option (List ByteArray × List ByteArray)
  | 0, _, _, _, _, _, _, _ => none
  | k + 1, x0, x1, x6, x7, x22, x23, x24 => if x24 < x23 then (if 0 ≤ x24 then (if x24 < (x22.length : Int) then ((impl_Asset_72.f k x0 ((rd_T71 x22 x24).f0) ((rd_T71 x22 x24).f1) ((rd_T71 x22 x24).f2)).bind fun t159 => (if t159 = true then (impl_Update.l0 k x0 x1 x6 x7 x22 x23 (wrap64 (x24 + 1))) else (if x6.length < 8796093022208 then (impl_Update.l0 k x0 x1 (x6 ++ [(rd_T71 x22 x24).f0]) x7 x22 x23 (wrap64 (x24 + 1))) else (none)))) else (none)) else (none)) else (impl_Update.l1 k x1 x6 x7 x0 (x0.length : Int) 0)
def impl_Update.l1 : Nat → List (S71) → List ByteArray → List ByteArray → List (S71) → Int → Int → Option (List ByteArray × List ByteArray)
  | 0, _, _, _, _, _, _ => none
  | k + 1, x1, x6, x7, x38, x39, x40 => if x40 < x39 then (if 0 ≤ x40 then (if x40 < (x38.length : Int) then ((impl_named.f x1 ((rd_T71 x38 x40).f0)).bind fun t165 => (if t165 = true then (impl_Update.l1 k x1 x6 x7 x38 x39 (wrap64 (x40 + 1))) else (if x7.length < 8796093022208 then (impl_Update.l1 k x1 x6 (x7 ++ [(rd_T71 x38 x40).f0]) x38 x39 (wrap64 (x40 + 1))) else (none)))) else (none)) else (none)) else (some (x6, x7))
end
def impl_Update.f (k : Nat) (l0 : List (S71)) (l1 : List (S71)) : Option (List ByteArray × List ByteArray) := (impl_PackOk.f k l0).bind fun t149 => (if t149 = true then ((impl_PackOk.f k l1).bind fun t150 => (impl_Update.j0 k l0 l1 (!t150))) else (impl_Update.j0 k l0 l1 true))
theorem impl_Update.mono_l : ∀ k, (∀ y0 y1 y2, LeO (impl_Update.j0 k y0 y1 y2) (impl_Update.j0 (k + 1) y0 y1 y2)) ∧ (∀ y0 y1 y2 y3 y4 y5 y6, LeO (impl_Update.l0 k y0 y1 y2 y3 y4 y5 y6) (impl_Update.l0 (k + 1) y0 y1 y2 y3 y4 y5 y6)) ∧ (∀ y0 y1 y2 y3 y4 y5, LeO (impl_Update.l1 k y0 y1 y2 y3 y4 y5) (impl_Update.l1 (k + 1) y0 y1 y2 y3 y4 y5))
  | 0 => ⟨fun _ _ _ r h => by simp [impl_Update.j0] at h, fun _ _ _ _ _ _ _ r h => by simp [impl_Update.l0] at h, fun _ _ _ _ _ _ r h => by simp [impl_Update.l1] at h⟩
  | k + 1 => by
    obtain⟨ih0,ih1,ih2⟩:=impl_Update.mono_l k
    refine⟨?_,?_,?_⟩
    · intro y0 y1 y2
      unfold impl_Update.j0
      repeat' first
      | (with_reducible exact ih0 _ _ _)
      | (with_reducible exact ih1 _ _ _ _ _ _ _)
      | (with_reducible exact ih2 _ _ _ _ _ _)
      | (with_reducible exact impl_Asset_72.mono _ _ _ _ _)
      | (with_reducible exact impl_PackOk.mono _ _)
      | (with_reducible exact LeO.refl _)
      | (with_reducible exact LeO.none _)
      | (with_reducible refine LeO.ite ?_ ?_)
      | (with_reducible refine LeO.bind ?_ (fun _ => ?_))
      | exact ih0 _ _ _
      | exact ih1 _ _ _ _ _ _ _
      | exact ih2 _ _ _ _ _ _
      | exact impl_Asset_72.mono _ _ _ _ _
      | exact impl_PackOk.mono _ _
      | exact LeO.none _
      | refine LeO.ite ?_ ?_
      | refine LeO.bind ?_ (fun _ => ?_)
    · intro y0 y1 y2 y3 y4 y5 y6
      unfold impl_Update.l0
      repeat' first
      | (with_reducible exact ih0 _ _ _)
      | (with_reducible exact ih1 _ _ _ _ _ _ _)
      | (with_reducible exact ih2 _ _ _ _ _ _)
      | (with_reducible exact impl_Asset_72.mono _ _ _ _ _)
      | (with_reducible exact impl_PackOk.mono _ _)
      | (with_reducible exact LeO.refl _)
      | (with_reducible exact LeO.none _)
      | (with_reducible refine LeO.ite ?_ ?_)
      | (with_reducible refine LeO.bind ?_ (fun _ => ?_))
      | exact ih0 _ _ _
      | exact ih1 _ _ _ _ _ _ _
      | exact ih2 _ _ _ _ _ _
      | exact impl_Asset_72.mono _ _ _ _ _
      | exact impl_PackOk.mono _ _
      | exact LeO.none _
      | refine LeO.ite ?_ ?_
      | refine LeO.bind ?_ (fun _ => ?_)
    · intro y0 y1 y2 y3 y4 y5
      unfold impl_Update.l1
      repeat' first
      | (with_reducible exact ih0 _ _ _)
      | (with_reducible exact ih1 _ _ _ _ _ _ _)
      | (with_reducible exact ih2 _ _ _ _ _ _)
      | (with_reducible exact impl_Asset_72.mono _ _ _ _ _)
      | (with_reducible exact impl_PackOk.mono _ _)
      | (with_reducible exact LeO.refl _)
      | (with_reducible exact LeO.none _)
      | (with_reducible refine LeO.ite ?_ ?_)
      | (with_reducible refine LeO.bind ?_ (fun _ => ?_))
      | exact ih0 _ _ _
      | exact ih1 _ _ _ _ _ _ _
      | exact ih2 _ _ _ _ _ _
      | exact impl_Asset_72.mono _ _ _ _ _
      | exact impl_PackOk.mono _ _
      | exact LeO.none _
      | refine LeO.ite ?_ ?_
      | refine LeO.bind ?_ (fun _ => ?_)
theorem impl_Update.mono : ∀ a0 a1 k, LeO (impl_Update.f k a0 a1) (impl_Update.f (k + 1) a0 a1) := by
  intro a0 a1 k
  obtain⟨ih0,ih1,ih2⟩:=impl_Update.mono_l k
  unfold impl_Update.f
  repeat' first
      | (with_reducible exact ih0 _ _ _)
      | (with_reducible exact ih1 _ _ _ _ _ _ _)
      | (with_reducible exact ih2 _ _ _ _ _ _)
      | (with_reducible exact impl_Asset_72.mono _ _ _ _ _)
      | (with_reducible exact impl_PackOk.mono _ _)
      | (with_reducible exact LeO.refl _)
      | (with_reducible exact LeO.none _)
      | (with_reducible refine LeO.ite ?_ ?_)
      | (with_reducible refine LeO.bind ?_ (fun _ => ?_))
      | exact ih0 _ _ _
      | exact ih1 _ _ _ _ _ _ _
      | exact ih2 _ _ _ _ _ _
      | exact impl_Asset_72.mono _ _ _ _ _
      | exact impl_PackOk.mono _ _
      | exact LeO.none _
      | refine LeO.ite ?_ ?_
      | refine LeO.bind ?_ (fun _ => ?_)
set_option maxHeartbeats 8000000 in
set_option maxRecDepth 100000 in
theorem impl_Update.calls (k : Nat) (A0 : Option Addr) (c0 : Nat) (l0 : List (S71)) (A1 : Option Addr) (c1 : Nat) (l1 : List (S71)) (r1 : List ByteArray) (r2 : List ByteArray) (w : World) (hr0 : Kd.C k71 w A0 l0.length l0) (hc0 : l0.length ≤ c0) (hr1 : Kd.C k71 w A1 l1.length l1) (hc1 : l1.length ≤ c1) (h : impl_Update.f k l0 l1 = some (r1, r2)) :
    Calls Try.prog 32 #[.slice A0 l0.length c0,.slice A1 l1.length c1] w fun e w'=>∃ v0_ v1_:Value,e=.returned (.tuple #[v0_,v1_])∧Kd.R Kd.string 9 w' w.heap.size (fun k_=>some k_≠(v1_:Value).ownBlock) v0_ r1∧Kd.R Kd.string 9 w' w.heap.size (fun k_=>some k_≠(v0_:Value).ownBlock) v1_ r2∧Below w.heap.size w w':=by
  have hu71:=Try.underlying71
  have HR0:=Ia hr0
  have HC0:=Ia hc0
  clear hr0 hc0
  have HR1:=Ia hr1
  have HC1:=Ia hc1
  clear hr1 hc1
  have HB:=Ia (Below.refl w.heap.size w)
  have H:((impl_PackOk.f k l0).bind fun t149=>(if t149=true then ((impl_PackOk.f k l1).bind fun t150=>(impl_Update.j0 k l0 l1 (!t150))) else (impl_Update.j0 k l0 l1 true)))=some (r1,r2):=h
  clear h
  have HC3:=Ia H
  clear H
  go_enter Try.func32,Try.ntmps32
  go_upto_region 1 with (fail)
  go_cut [19] (fun v19 wc=>∃ (kq:Nat) (x19_2:Bool),v19=.bool x19_2∧Aside0 (impl_Update.j0 kq l0 l1 x19_2=some (r1,r2))∧Aside0 (kq≤k)∧Aside0 (Below w.heap.size w wc))
  case first=>
    have H:=HC3.out
    clear HC3
    replace H:=Option.bind_eq_some_iff.mp H
    obtain⟨t149,A40,H⟩:=H
    replace H:(if t149=true then ((impl_PackOk.f k l1).bind fun t150=>(impl_Update.j0 k l0 l1 (!t150))) else (impl_Update.j0 k l0 l1 true))=some (r1,r2):=H
    have A4:=Ia A40
    clear A40
    by_cases c5:t149=true
    · subst c5
      have H1:((impl_PackOk.f k l1).bind fun t150=>(impl_Update.j0 k l0 l1 (!t150)))=some (r1,r2):=by rw [if_pos rfl] at H;exact H
      clear H
      have H:=H1
      clear H1
      replace H:=Option.bind_eq_some_iff.mp H
      obtain⟨t150,A60,H⟩:=H
      replace H:(impl_Update.j0 k l0 l1 (!t150))=some (r1,r2):=H
      have A6:=Ia A60
      clear A60
      have H':=Ia H
      clear H
      go_wp2_with (first|((with_reducible refine gate_callee (f:=27) rfl ?_);refine goesL_ (some 13) rfl rfl Try.func27 (by kernel_rfl) rfl #[.slice A0 l0.length c0] rfl (by(try simp only [List.map_toArray,List.map_cons,List.map_nil]);first|done|rfl|(simp only [List.length_drop,List.length_take];rfl)) ?_;(with_reducible refine(impl_PackOk.calls k _ _ l0 true _ ?side1 ?side2 A4.out).mono ?_);(case side1=>repeat(first|exact(Kd.C_below HR0.out HB.out)|(with_reducible refine Kd.C_alloc ?_ _)|(with_reducible refine Kd.C_drewN ?_ _)|(with_reducible refine Kd.C_drew ?_)));(case side2=>exact HC0.out);rintro e w7 ⟨rfl,hb⟩;refine⟨_,rfl,?_⟩;have n0_:=Ia (Im (by repeat(first|(with_reducible first|exact HB.out|apply Ic|apply Ib|apply Id)|exact HB.out)) hb);clear HB;have HB:=n0_;clear n0_;(try clear hb);(try clear hb2);(try clear hk);(try clear hi))|(go_at_call 27;(with_reducible refine(impl_PackOk.calls k _ _ l1 t150 _ ?side1 ?side2 A6.out).mono ?_);(case side1=>repeat(first|exact(Kd.C_below HR1.out HB.out)|(with_reducible refine Kd.C_alloc ?_ _)|(with_reducible refine Kd.C_drewN ?_ _)|(with_reducible refine Kd.C_drew ?_)));(case side2=>exact HC1.out);rintro e w8 ⟨rfl,hb⟩;have n0_:=Ia (Im (by repeat(first|(with_reducible first|exact HB.out|apply Ic|apply Ib|apply Id)|exact HB.out)) hb);clear HB;have HB:=n0_;clear n0_;(try clear hb);(try clear hb2);(try clear hk);(try clear hi)))
      go_meet
      case rel=>exact⟨_,(!t150),(by first|rfl|(simp;done)|(simp [*];done)),H',⟨by first|omega|exact Nat.le_refl _⟩,⟨by repeat(first|(with_reducible first|exact HB.out|apply Ic|apply Ib|apply Id)|exact HB.out)⟩⟩
    · replace c5:=Bool.eq_false_iff.mpr c5
      subst c5
      have H1:(impl_Update.j0 k l0 l1 true)=some (r1,r2):=by rw [if_neg (show ¬ (false=true) by decide)] at H;exact H
      clear H
      have H:=H1
      clear H1
      have H':=Ia H
      clear H
      go_wp2_with (first|((with_reducible refine gate_callee (f:=27) rfl ?_);refine goesL_ (some 13) rfl rfl Try.func27 (by kernel_rfl) rfl #[.slice A0 l0.length c0] rfl (by(try simp only [List.map_toArray,List.map_cons,List.map_nil]);first|done|rfl|(simp only [List.length_drop,List.length_take];rfl)) ?_;(with_reducible refine(impl_PackOk.calls k _ _ l0 false _ ?side1 ?side2 A4.out).mono ?_);(case side1=>repeat(first|exact(Kd.C_below HR0.out HB.out)|(with_reducible refine Kd.C_alloc ?_ _)|(with_reducible refine Kd.C_drewN ?_ _)|(with_reducible refine Kd.C_drew ?_)));(case side2=>exact HC0.out);rintro e w9 ⟨rfl,hb⟩;refine⟨_,rfl,?_⟩;have n0_:=Ia (Im (by repeat(first|(with_reducible first|exact HB.out|apply Ic|apply Ib|apply Id)|exact HB.out)) hb);clear HB;have HB:=n0_;clear n0_;(try clear hb);(try clear hb2);(try clear hk);(try clear hi)))
      go_meet
      case rel=>exact⟨_,(true),(by first|rfl|(simp;done)|(simp [*];done)),H',⟨by first|omega|exact Nat.le_refl _⟩,⟨by repeat(first|(with_reducible first|exact HB.out|apply Ic|apply Ib|apply Id)|exact HB.out)⟩⟩
  case rest=>
    clear HC3
    try clear c1
    try clear c2
    try clear p2
    try clear c3
    try clear c5
    obtain⟨kq,x19_2,rfl,HA,HJ2,HB⟩:=hcut
    cases kq with
    | zero => exact absurd HA.out (by simp [impl_Update.j0])
    | succ kj2 =>
      have H:=HA.out
      clear HA
      simp only [impl_Update.j0] at H
      by_cases c10:x19_2=true
      · subst c10
        have H1:(some (([]:List ByteArray),([]:List ByteArray)))=some (r1,r2):=by rw [if_pos rfl] at H;exact H
        clear H
        have H:=H1
        clear H1
        simp only [Option.some.injEq,Prod.mk.injEq] at H
        obtain⟨rfl,rfl⟩:=H
        go_wp2
        go_ret2
        exact⟨_,_,by first|rfl|(simp [errW_none,errW_some] <;> rfl)|(simp [*,errW_none,errW_some] <;> rfl),by first|exact Kd.R_nil _ _ _ _ _|exact Kd.N_nil _ _ _ _ _|exact Kd.V_nil _ _ _ _ _|exact Kd.Q_nil _ _ _ _ _|exact Kd.S_nil _ _ _ _ _,by first|exact Kd.R_nil _ _ _ _ _|exact Kd.N_nil _ _ _ _ _|exact Kd.V_nil _ _ _ _ _|exact Kd.Q_nil _ _ _ _ _|exact Kd.S_nil _ _ _ _ _,by repeat(first|(with_reducible first|exact HB.out|apply Ic|apply Ib|apply Id)|exact HB.out)⟩
      · replace c10:=Bool.eq_false_iff.mpr c10
        subst c10
        have H1:(impl_Update.l0 kj2 l0 l1 (([]:List ByteArray)) (([]:List ByteArray)) l1 (l1.length:Int) 0)=some (r1,r2):=by rw [if_neg (show ¬ (false=true) by decide)] at H;exact H
        clear H
        have H:=H1
        clear H1
        obtain⟨y151,hy151⟩:∃ y_:List ByteArray,y_=(([]:List ByteArray)):=⟨_,rfl⟩
        replace H:(impl_Update.l0 kj2 l0 l1 y151 (([]:List ByteArray)) l1 (l1.length:Int) 0)=some (r1,r2):=by first|(rw [hy151];with_reducible exact H)|(have H2_:=(Option.bind_some _ _).symm.trans H;rw [hy151];with_reducible exact H2_)|(have H2_:=(Option.bind_some _ _).symm.trans H;with_reducible exact H2_)|with_reducible exact H|(rw [hy151];exact H)|exact H
        have Ny151:=Ia hy151
        clear hy151
        obtain⟨y154,hy154⟩:∃ y_:List ByteArray,y_=(([]:List ByteArray)):=⟨_,rfl⟩
        replace H:(impl_Update.l0 kj2 l0 l1 y151 y154 l1 (l1.length:Int) 0)=some (r1,r2):=by first|(rw [hy154];with_reducible exact H)|(have H2_:=(Option.bind_some _ _).symm.trans H;rw [hy154];with_reducible exact H2_)|(have H2_:=(Option.bind_some _ _).symm.trans H;with_reducible exact H2_)|with_reducible exact H|(rw [hy154];exact H)|exact H
        have Ny154:=Ia hy154
        clear hy154
        have H':=Ia H
        clear H
        go_wp2_with (first|((with_reducible refine gate_dst (N:=20) rfl ?_);refine Kd.R_lit Kd.string _ 9 ?hg (N:=20) ?hd (xs:=([]:List ByteArray)) (inner:=[]) (ok:=fun _=>True) (okp:=fun _=>True) ?hr ?hp (fun _ hk=>hk) trivial (Below.refl _ _) (Nat.le_refl _) (by simp) ?_;(case hd=>rfl);(case hg=>rfl);(case hr=>first|(go_simp;done)|(go_simp;rfl));(case hp=>exact(Reps.none _ _));intro v152 w11 ho12 hb hg_ hnew_;clear hg_ hnew_;(first|rw [← Ny151.out] at ho12|(simp only [Int.reduceToNat] at ho12;rw [← Ny151.out] at ho12));have n0_:=Ia (Kd.R_lower ho12 (Ik (by repeat(first|(with_reducible first|exact HB.out|apply Ic|apply Ib|apply Id)|exact HB.out))));have n1_:=Ia (Im (by repeat(first|(with_reducible first|exact HB.out|apply Ic|apply Ib|apply Id)|exact HB.out)) hb);clear HB;have HO153:=n0_;have HB:=n1_;clear n0_ n1_;clear hb ho12)|((with_reducible refine gate_dst (N:=21) rfl ?_);refine Kd.R_lit Kd.string _ 9 ?hg (N:=21) ?hd (xs:=([]:List ByteArray)) (inner:=[]) (ok:=fun _=>True) (okp:=fun _=>True) ?hr ?hp (fun _ hk=>hk) trivial (Below.refl _ _) (Nat.le_refl _) (by simp) ?_;(case hd=>rfl);(case hg=>rfl);(case hr=>first|(go_simp;done)|(go_simp;rfl));(case hp=>exact(Reps.none _ _));intro v155 w13 ho14 hb hg_ hnew_;clear hg_ hnew_;(first|rw [← Ny154.out] at ho14|(simp only [Int.reduceToNat] at ho14;rw [← Ny154.out] at ho14));have n0_:=Ia (Kd.R_elder' (by(with_reducible repeat(first|apply If|apply Ig|apply Ie));exact HO153.out) (Kd.R_base ho14) hb);have n1_:=Ia (Kd.R_lower (Kd.R_new' ho14 (Kd.R_lt (by(with_reducible repeat(first|apply If|apply Ig|apply Ie));exact HO153.out))) (Ik (by repeat(first|(with_reducible first|exact HB.out|apply Ic|apply Ib|apply Id)|exact HB.out))));have n2_:=Ia (Im (by repeat(first|(with_reducible first|exact HB.out|apply Ic|apply Ib|apply Id)|exact HB.out)) hb);clear HO153;clear HB;have HO153:=n0_;have HO156:=n1_;have HB:=n2_;clear n0_ n1_ n2_;clear hb ho14))
        go_loopg [6,24] kj2 (fun kq v6 v24 w'=>∃ (x6_2:List ByteArray) (x24_2:Int),v24=.int .i64 x24_2∧Aside0 (impl_Update.l0 kq l0 l1 x6_2 y154 l1 (l1.length:Int) x24_2=some (r1,r2))∧Aside0 (kq≤kj2)∧Aside0 (Kd.R Kd.string 9 w' w.heap.size (fun k_=>some k_≠(v155:Value).ownBlock) v6 x6_2)∧Aside0 (Kd.R Kd.string 9 w' w.heap.size (fun k_=>some k_≠(v6:Value).ownBlock) v155 y154)∧Aside0 (Below w.heap.size w w'))
        case atStart=>exact⟨(y151),(0),(by first|rfl|(simp;done)|(simp [*];done)),H',⟨Nat.le_refl _⟩,⟨by(with_reducible repeat(first|apply If|apply Ig|apply Ie));exact Kd.R_mono HO153.out (fun _ hk=>hk.2)⟩,⟨by(with_reducible repeat(first|apply If|apply Ig|apply Ie));exact Kd.R_mono HO156.out (fun _ hk=>hk.2)⟩,⟨by repeat(first|(with_reducible first|exact HB.out|apply Ic|apply Ib|apply Id)|exact HB.out)⟩⟩
        case round=>
          clear H'
          try clear c1
          try clear c2
          try clear p2
          try clear c3
          try clear c5
          try clear c10
          try clear p2
          obtain⟨x6_2,x24_2,rfl,HA,HK2,HO_6,HO_7,HB⟩:=hrel
          cases gk with
          | zero => exact absurd HA.out (by simp [impl_Update.l0])
          | succ k2 =>
            have H:=HA.out
            clear HA
            simp only [impl_Update.l0] at H
            by_cases c15:x24_2 < (l1.length:Int)
            · rw [if_pos c15] at H
              have c15b0:decide (x24_2 < (l1.length:Int))=true:=decide_eq_true c15
              clear c15
              by_cases c16:0≤x24_2
              · rw [if_pos c16] at H
                have c16b0:decide (0≤x24_2)=true:=decide_eq_true c16
                clear c16
                by_cases c17:x24_2 < (l1.length:Int)
                · rw [if_pos c17] at H
                  have c17b0:decide (x24_2 < (l1.length:Int))=true:=decide_eq_true c17
                  clear c17
                  replace H:=Option.bind_eq_some_iff.mp H
                  obtain⟨t159,A180,H⟩:=H
                  replace H:(if t159=true then (impl_Update.l0 k2 l0 l1 x6_2 y154 l1 (l1.length:Int) (wrap64 (x24_2+1))) else (if x6_2.length < 8796093022208 then (impl_Update.l0 k2 l0 l1 (x6_2 ++ [(rd_T71 l1 x24_2).f0]) y154 l1 (l1.length:Int) (wrap64 (x24_2+1))) else (none)))=some (r1,r2):=H
                  have A18:=Ia A180
                  clear A180
                  by_cases c19:t159=true
                  · subst c19
                    have H1:(impl_Update.l0 k2 l0 l1 x6_2 y154 l1 (l1.length:Int) (wrap64 (x24_2+1)))=some (r1,r2):=by rw [if_pos rfl] at H;exact H
                    clear H
                    have H:=H1
                    clear H1
                    have H':=Ia H
                    clear H
                    have p157:0≤(x24_2:Int):=of_decide_eq_true (by first|(with_reducible assumption)|assumption)
                    have q157:x24_2 < (l1.length:Int):=of_decide_eq_true (by first|(with_reducible assumption)|assumption)
                    obtain⟨ad157,e157,hx157_0,hx157_1,hx157_2⟩:=at_T71 HR1.out x24_2 p157 q157
                    cases e157
                    replace hx157_0:=(HB.out.cell (World.block_lt_of_cell? w _ hx157_0)).trans hx157_0
                    replace hx157_1:=(HB.out.cell (World.block_lt_of_cell? w _ hx157_1)).trans hx157_1
                    replace hx157_2:=(HB.out.cell (World.block_lt_of_cell? w _ hx157_2)).trans hx157_2
                    replace p157:=eq_true p157
                    replace q157:=eq_true q157
                    go_wp2_with (first|((with_reducible refine gate_dst (N:=9) rfl ?_);refine box_event ?hg (N:=9) ?hd (cs:=#[.string (⟨#[]⟩:ByteArray),.int .i64 0,.int .i64 0]) (t:=71) ?hr ?_;(case hd=>rfl);(case hg=>rfl);(case hr=>first|(go_simp;done)|(go_simp;rfl));intro gb158 hg w20 hbox hb;have n0_:=Ia (Kd.R_below (by(with_reducible repeat(first|apply If|apply Ig|apply Ie));exact HO_6.out) hb);have n1_:=Ia (Kd.R_below (by(with_reducible repeat(first|apply If|apply Ig|apply Ie));exact HO_7.out) hb);have n2_:=Ia (Im (by repeat(first|(with_reducible first|exact HB.out|apply Ic|apply Ib|apply Id)|exact HB.out)) hb);have n3_:=Ia (hbox);have n4_:=Ia ((by rw [hg];exact(Ik (by repeat(first|(with_reducible first|exact HB.out|apply Ic|apply Ib|apply Id)|exact HB.out))):w.heap.size≤gb158));have n5_:=Ia ((by rw [hg];exact(Ik (by repeat(first|(with_reducible first|exact HB.out|apply Ic|apply Ib|apply Id)|exact HB.out))):w.heap.size≤gb158));clear HO_6;clear HO_7;clear HB;have HO_6:=n0_;have HO_7:=n1_;have HB:=n2_;have BK158:=n3_;have GW158:=n4_;have GE158:=n5_;clear n0_ n1_ n2_ n3_ n4_ n5_;clear hb hbox hg;have hcz21_0:w20.cell? ⟨gb158,0,none⟩=some (.string (⟨#[]⟩:ByteArray)):=(Ij BK158.out 0).trans rfl;have hcz21_1:w20.cell? ⟨gb158,1,none⟩=some (.int .i64 0):=(Ij BK158.out 1).trans rfl;have hcz21_2:w20.cell? ⟨gb158,2,none⟩=some (.int .i64 0):=(Ij BK158.out 2).trans rfl;have hfz21_0:=Ii BK158.out 0;have hfz21_1:=Ii BK158.out 1;have hfz21_2:=Ii BK158.out 2)|((with_reducible refine gate_callee (f:=72) rfl ?_);refine goesL_ (some 30) rfl rfl Try.func72 (by kernel_rfl) rfl #[.slice A0 l0.length c0,.agg #[.string ((rd_T71 l1 x24_2).f0),.int .i64 ((rd_T71 l1 x24_2).f1),.int .i64 ((rd_T71 l1 x24_2).f2)]] rfl (by(try simp only [List.map_toArray,List.map_cons,List.map_nil]);first|done|rfl|(simp only [List.length_drop,List.length_take];rfl)) ?_;(with_reducible refine(impl_Asset_72.calls k2 _ _ l0 ((rd_T71 l1 x24_2).f0) ((rd_T71 l1 x24_2).f1) ((rd_T71 l1 x24_2).f2) true _ ?side1 ?side2 A18.out).mono ?_);(case side1=>exact Kd.C_below HR0.out (by repeat(first|(with_reducible first|exact HB.out|apply Ic|apply Ib|apply Id|refine Il ?_ GE158.out)|exact HB.out)));(case side2=>exact HC0.out);rintro e w22 ⟨rfl,hb⟩;refine⟨_,rfl,?_⟩;have n0_:=Ia (Kd.R_below (by(with_reducible repeat(first|apply If|apply Ig|apply Ie));exact(Kd.R_mono (Ip (p:=⟨gb158,2,none⟩) (Ip (p:=⟨gb158,1,none⟩) (Ip (p:=⟨gb158,0,none⟩) (Kd.R_types HO_6.out BK158.out (by decide)) (fun _ hk=>hk.2) (.string ((rd_T71 l1 x24_2).f0))) (fun _ hk=>hk.2) (.int .i64 ((rd_T71 l1 x24_2).f1))) (fun _ hk=>hk.2) (.int .i64 ((rd_T71 l1 x24_2).f2))) (fun _ h_=>h_.1))) hb);have n1_:=Ia (Kd.R_below (by(with_reducible repeat(first|apply If|apply Ig|apply Ie));exact(Kd.R_mono (Ip (p:=⟨gb158,2,none⟩) (Ip (p:=⟨gb158,1,none⟩) (Ip (p:=⟨gb158,0,none⟩) (Kd.R_types HO_7.out BK158.out (by decide)) (fun _ hk=>hk.2) (.string ((rd_T71 l1 x24_2).f0))) (fun _ hk=>hk.2) (.int .i64 ((rd_T71 l1 x24_2).f1))) (fun _ hk=>hk.2) (.int .i64 ((rd_T71 l1 x24_2).f2))) (fun _ h_=>h_.1))) hb);have n2_:=Ia (blk_below (g:=gb158) (o:=.cells #[.string ((rd_T71 l1 x24_2).f0),.int .i64 ((rd_T71 l1 x24_2).f1),.int .i64 ((rd_T71 l1 x24_2).f2)] 71 (0,0)) (by(with_reducible repeat(first|refine Io ?_ _|refine Ih ?_|refine In ?_ _));refine blk_put (cs:=#[.string ((rd_T71 l1 x24_2).f0),.int .i64 ((rd_T71 l1 x24_2).f1),.int .i64 0]) ?_ 2 _ rfl;(with_reducible repeat(first|refine Io ?_ _|refine Ih ?_|refine In ?_ _));refine blk_put (cs:=#[.string ((rd_T71 l1 x24_2).f0),.int .i64 0,.int .i64 0]) ?_ 1 _ rfl;(with_reducible repeat(first|refine Io ?_ _|refine Ih ?_|refine In ?_ _));refine blk_put (cs:=#[.string (⟨#[]⟩:ByteArray),.int .i64 0,.int .i64 0]) ?_ 0 _ rfl;(with_reducible repeat(first|refine Io ?_ _|refine Ih ?_|refine In ?_ _));exact BK158.out) hb);have n3_:=Ia (Im (by repeat(first|(with_reducible first|exact HB.out|apply Ic|apply Ib|apply Id|refine Il ?_ GE158.out)|exact HB.out)) hb);clear HO_6;clear HO_7;clear BK158;clear HB;have HO_6:=n0_;have HO_7:=n1_;have BK158:=n2_;have HB:=n3_;clear n0_ n1_ n2_ n3_;(try clear hb);(try clear hb2);(try clear hk);(try clear hi)))
                    go_roundg k2
                    case measure=>have:=HJ2.out;have:=HK2.out;omega
                    case rel=>exact⟨(x6_2),(wrap64 (x24_2+1)),(by first|rfl|(simp;done)|(simp [*];done)),H',⟨by have:=HJ2.out;have:=HK2.out;omega⟩,⟨by(with_reducible repeat(first|apply If|apply Ig|apply Ie));exact HO_6.out⟩,⟨by(with_reducible repeat(first|apply If|apply Ig|apply Ie));exact HO_7.out⟩,⟨by repeat(first|(with_reducible first|exact HB.out|apply Ic|apply Ib|apply Id|refine Il ?_ GE158.out)|exact HB.out)⟩⟩
                  · replace c19:=Bool.eq_false_iff.mpr c19
                    subst c19
                    have H1:(if x6_2.length < 8796093022208 then (impl_Update.l0 k2 l0 l1 (x6_2 ++ [(rd_T71 l1 x24_2).f0]) y154 l1 (l1.length:Int) (wrap64 (x24_2+1))) else (none))=some (r1,r2):=by rw [if_neg (show ¬ (false=true) by decide)] at H;exact H
                    clear H
                    have H:=H1
                    clear H1
                    by_cases c23:x6_2.length < 8796093022208
                    · rw [if_pos c23] at H
                      have LMc23:=Ia c23
                      clear c23
                      obtain⟨y160,hy160⟩:∃ y_:List ByteArray,y_=(x6_2 ++ [(rd_T71 l1 x24_2).f0]):=⟨_,rfl⟩
                      replace H:(impl_Update.l0 k2 l0 l1 y160 y154 l1 (l1.length:Int) (wrap64 (x24_2+1)))=some (r1,r2):=by first|(rw [hy160];with_reducible exact H)|(have H2_:=(Option.bind_some _ _).symm.trans H;rw [hy160];with_reducible exact H2_)|(have H2_:=(Option.bind_some _ _).symm.trans H;with_reducible exact H2_)|with_reducible exact H|(rw [hy160];exact H)|exact H
                      have Ny160:=Ia hy160
                      clear hy160
                      have H':=Ia H
                      clear H
                      have p157:0≤(x24_2:Int):=of_decide_eq_true (by first|(with_reducible assumption)|assumption)
                      have q157:x24_2 < (l1.length:Int):=of_decide_eq_true (by first|(with_reducible assumption)|assumption)
                      obtain⟨ad157,e157,hx157_0,hx157_1,hx157_2⟩:=at_T71 HR1.out x24_2 p157 q157
                      cases e157
                      replace hx157_0:=(HB.out.cell (World.block_lt_of_cell? w _ hx157_0)).trans hx157_0
                      replace hx157_1:=(HB.out.cell (World.block_lt_of_cell? w _ hx157_1)).trans hx157_1
                      replace hx157_2:=(HB.out.cell (World.block_lt_of_cell? w _ hx157_2)).trans hx157_2
                      replace p157:=eq_true p157
                      replace q157:=eq_true q157
                      go_wp2_with (first|((with_reducible refine gate_dst (N:=9) rfl ?_);refine box_event ?hg (N:=9) ?hd (cs:=#[.string (⟨#[]⟩:ByteArray),.int .i64 0,.int .i64 0]) (t:=71) ?hr ?_;(case hd=>rfl);(case hg=>rfl);(case hr=>first|(go_simp;done)|(go_simp;rfl));intro gb158 hg w24 hbox hb;have n0_:=Ia (Kd.R_below (by(with_reducible repeat(first|apply If|apply Ig|apply Ie));exact HO_6.out) hb);have n1_:=Ia (Kd.R_below (by(with_reducible repeat(first|apply If|apply Ig|apply Ie));exact HO_7.out) hb);have n2_:=Ia (Im (by repeat(first|(with_reducible first|exact HB.out|apply Ic|apply Ib|apply Id)|exact HB.out)) hb);have n3_:=Ia (hbox);have n4_:=Ia ((by rw [hg];exact(Ik (by repeat(first|(with_reducible first|exact HB.out|apply Ic|apply Ib|apply Id)|exact HB.out))):w.heap.size≤gb158));have n5_:=Ia ((by rw [hg];exact(Ik (by repeat(first|(with_reducible first|exact HB.out|apply Ic|apply Ib|apply Id)|exact HB.out))):w.heap.size≤gb158));clear HO_6;clear HO_7;clear HB;have HO_6:=n0_;have HO_7:=n1_;have HB:=n2_;have BK158:=n3_;have GW158:=n4_;have GE158:=n5_;clear n0_ n1_ n2_ n3_ n4_ n5_;clear hb hbox hg;have hcz25_0:w24.cell? ⟨gb158,0,none⟩=some (.string (⟨#[]⟩:ByteArray)):=(Ij BK158.out 0).trans rfl;have hcz25_1:w24.cell? ⟨gb158,1,none⟩=some (.int .i64 0):=(Ij BK158.out 1).trans rfl;have hcz25_2:w24.cell? ⟨gb158,2,none⟩=some (.int .i64 0):=(Ij BK158.out 2).trans rfl;have hfz25_0:=Ii BK158.out 0;have hfz25_1:=Ii BK158.out 1;have hfz25_2:=Ii BK158.out 2)|((with_reducible refine gate_callee (f:=72) rfl ?_);refine goesL_ (some 30) rfl rfl Try.func72 (by kernel_rfl) rfl #[.slice A0 l0.length c0,.agg #[.string ((rd_T71 l1 x24_2).f0),.int .i64 ((rd_T71 l1 x24_2).f1),.int .i64 ((rd_T71 l1 x24_2).f2)]] rfl (by(try simp only [List.map_toArray,List.map_cons,List.map_nil]);first|done|rfl|(simp only [List.length_drop,List.length_take];rfl)) ?_;(with_reducible refine(impl_Asset_72.calls k2 _ _ l0 ((rd_T71 l1 x24_2).f0) ((rd_T71 l1 x24_2).f1) ((rd_T71 l1 x24_2).f2) false _ ?side1 ?side2 A18.out).mono ?_);(case side1=>exact Kd.C_below HR0.out (by repeat(first|(with_reducible first|exact HB.out|apply Ic|apply Ib|apply Id|refine Il ?_ GE158.out)|exact HB.out)));(case side2=>exact HC0.out);rintro e w26 ⟨rfl,hb⟩;refine⟨_,rfl,?_⟩;have n0_:=Ia (Kd.R_below (by(with_reducible repeat(first|apply If|apply Ig|apply Ie));exact(Kd.R_mono (Ip (p:=⟨gb158,2,none⟩) (Ip (p:=⟨gb158,1,none⟩) (Ip (p:=⟨gb158,0,none⟩) (Kd.R_types HO_6.out BK158.out (by decide)) (fun _ hk=>hk.2) (.string ((rd_T71 l1 x24_2).f0))) (fun _ hk=>hk.2) (.int .i64 ((rd_T71 l1 x24_2).f1))) (fun _ hk=>hk.2) (.int .i64 ((rd_T71 l1 x24_2).f2))) (fun _ h_=>h_.1))) hb);have n1_:=Ia (Kd.R_below (by(with_reducible repeat(first|apply If|apply Ig|apply Ie));exact(Kd.R_mono (Ip (p:=⟨gb158,2,none⟩) (Ip (p:=⟨gb158,1,none⟩) (Ip (p:=⟨gb158,0,none⟩) (Kd.R_types HO_7.out BK158.out (by decide)) (fun _ hk=>hk.2) (.string ((rd_T71 l1 x24_2).f0))) (fun _ hk=>hk.2) (.int .i64 ((rd_T71 l1 x24_2).f1))) (fun _ hk=>hk.2) (.int .i64 ((rd_T71 l1 x24_2).f2))) (fun _ h_=>h_.1))) hb);have n2_:=Ia (blk_below (g:=gb158) (o:=.cells #[.string ((rd_T71 l1 x24_2).f0),.int .i64 ((rd_T71 l1 x24_2).f1),.int .i64 ((rd_T71 l1 x24_2).f2)] 71 (0,0)) (by(with_reducible repeat(first|refine Io ?_ _|refine Ih ?_|refine In ?_ _));refine blk_put (cs:=#[.string ((rd_T71 l1 x24_2).f0),.int .i64 ((rd_T71 l1 x24_2).f1),.int .i64 0]) ?_ 2 _ rfl;(with_reducible repeat(first|refine Io ?_ _|refine Ih ?_|refine In ?_ _));refine blk_put (cs:=#[.string ((rd_T71 l1 x24_2).f0),.int .i64 0,.int .i64 0]) ?_ 1 _ rfl;(with_reducible repeat(first|refine Io ?_ _|refine Ih ?_|refine In ?_ _));refine blk_put (cs:=#[.string (⟨#[]⟩:ByteArray),.int .i64 0,.int .i64 0]) ?_ 0 _ rfl;(with_reducible repeat(first|refine Io ?_ _|refine Ih ?_|refine In ?_ _));exact BK158.out) hb);have n3_:=Ia (Im (by repeat(first|(with_reducible first|exact HB.out|apply Ic|apply Ib|apply Id|refine Il ?_ GE158.out)|exact HB.out)) hb);clear HO_6;clear HO_7;clear BK158;clear HB;have HO_6:=n0_;have HO_7:=n1_;have BK158:=n2_;have HB:=n3_;clear n0_ n1_ n2_ n3_;(try clear hb);(try clear hb2);(try clear hk);(try clear hi);have hcz27_0:w26.cell? ⟨gb158,0,none⟩=some (.string ((rd_T71 l1 x24_2).f0)):=(Ij BK158.out 0).trans rfl;have hcz27_1:w26.cell? ⟨gb158,1,none⟩=some (.int .i64 ((rd_T71 l1 x24_2).f1)):=(Ij BK158.out 1).trans rfl;have hcz27_2:w26.cell? ⟨gb158,2,none⟩=some (.int .i64 ((rd_T71 l1 x24_2).f2)):=(Ij BK158.out 2).trans rfl;have hfz27_0:=Ii BK158.out 0;have hfz27_1:=Ii BK158.out 1;have hfz27_2:=Ii BK158.out 2)|((with_reducible refine gate_builtin (b:=.append) (xs:=#[.tmp 32,.tmp 35]) rfl ?_);at_builtin;refine Kd.R_append Kd.string (w0:=w) w.heap.size rfl (.tmp 32) (.tmp 35) 46 9 (.string ⟨#[]⟩) 16 rfl Try.underlying46 info9 rfl (by decide) (by omega) u6 x6_2 ((rd_T71 l1 x24_2).f0) [.string ((rd_T71 l1 x24_2).f0)] (fun k_=>some k_≠(v155:Value).ownBlock) (fun _=>False) rfl rfl ?aP (fun _ hk=>hk.elim) ?aF ?aO ?aB ?aS ?aL ?_;(case aP=>exact rfl);(case aB=>exact(by repeat(first|(with_reducible first|exact HB.out|apply Ic|apply Ib|apply Id|refine Il ?_ GE158.out)|exact HB.out)));(case aF=>exact(fun k_ hk=>Kd.fresh' (Kd.R_lt (by(with_reducible repeat(first|apply If|apply Ig|apply Ie));exact HO_7.out)) k_ hk));(case aO=>exact(by(with_reducible repeat(first|apply If|apply Ig|apply Ie));exact HO_6.out));(case aS=>exact(Ik (by repeat(first|(with_reducible first|exact HB.out|apply Ic|apply Ib|apply Id|refine Il ?_ GE158.out)|exact HB.out))));(case aL=>have:=LMc23.out;omega);intro v161 w28 ho hb hg hat;rw [← Ny160.out] at ho;have n0_:=Ia (Kd.R_after (ok:=(fun _=>True)) (by(with_reducible repeat(first|apply If|apply Ig|apply Ie));exact Kd.R_mono HO_7.out (fun _ hk=>⟨trivial,hk⟩)) hg hat);have n1_:=Ia (blk_grown (g:=gb158) (o:=.cells #[.string ((rd_T71 l1 x24_2).f0),.int .i64 ((rd_T71 l1 x24_2).f1),.int .i64 ((rd_T71 l1 x24_2).f2)] 71 (0,0)) (by(with_reducible repeat(first|refine Io ?_ _|refine Ih ?_|refine In ?_ _));exact BK158.out) hg (Kd.R_ne HO_6.out BK158.out (by decide)));have n2_:=Ia (hb);have n3_:=Ia (ho);clear HO_7;clear BK158;clear HB;clear HO_6;have HO_7:=n0_;have BK158:=n1_;have HB:=n2_;have HO162:=n3_;clear n0_ n1_ n2_ n3_;clear ho hb hg hat))
                      go_roundg k2
                      case measure=>have:=HJ2.out;have:=HK2.out;omega
                      case rel=>exact⟨(y160),(wrap64 (x24_2+1)),(by first|rfl|(simp;done)|(simp [*];done)),H',⟨by have:=HJ2.out;have:=HK2.out;omega⟩,⟨by(with_reducible repeat(first|apply If|apply Ig|apply Ie));exact HO162.out⟩,⟨by(with_reducible repeat(first|apply If|apply Ig|apply Ie));exact Kd.R_mono HO_7.out (fun _ hk=>hk.2)⟩,⟨by repeat(first|(with_reducible first|exact HB.out|apply Ic|apply Ib|apply Id|refine Il ?_ GE158.out)|exact HB.out)⟩⟩
                    · rw [if_neg c23] at H
                      exact absurd H (by simp)
                · rw [if_neg c17] at H
                  exact absurd H (by simp)
              · rw [if_neg c16] at H
                exact absurd H (by simp)
            · rw [if_neg c15] at H
              have c15b0:decide (x24_2 < (l1.length:Int))=false:=decide_eq_false c15
              clear c15
              have H':=Ia H
              clear H
              go_wp2
              go_loopg [7,40] k2 (fun kq v7 v40 w'=>∃ (x7_3:List ByteArray) (x40_3:Int),v40=.int .i64 x40_3∧Aside0 (impl_Update.l1 kq l1 x6_2 x7_3 l0 (l0.length:Int) x40_3=some (r1,r2))∧Aside0 (kq≤k2)∧Aside0 (Kd.R Kd.string 9 w' w.heap.size (fun k_=>some k_≠(v7:Value).ownBlock) u6 x6_2)∧Aside0 (Kd.R Kd.string 9 w' w.heap.size (fun k_=>some k_≠(u6:Value).ownBlock) v7 x7_3)∧Aside0 (Below w.heap.size w w'))
              case atStart=>exact⟨(y154),(0),(by first|rfl|(simp;done)|(simp [*];done)),H',⟨Nat.le_refl _⟩,⟨by(with_reducible repeat(first|apply If|apply Ig|apply Ie));exact HO_6.out⟩,⟨by(with_reducible repeat(first|apply If|apply Ig|apply Ie));exact HO_7.out⟩,⟨by repeat(first|(with_reducible first|exact HB.out|apply Ic|apply Ib|apply Id)|exact HB.out)⟩⟩
              case round=>
                clear H'
                try clear c1
                try clear p1
                try clear q1
                try clear hx1
                try clear c2
                try clear p2
                try clear c3
                try clear c5
                try clear p6
                try clear c7
                try clear c10
                try clear c15
                try clear c15b0
                try clear p15
                try clear q15
                try clear hx15
                try clear c16
                try clear c16b0
                try clear c17
                try clear c17b0
                try clear c19
                try clear c23
                try clear c27
                try clear hcz21_0
                try clear hcz21_1
                try clear hcz21_2
                try clear hcz25_0
                try clear hcz25_1
                try clear hcz25_2
                try clear hcz27_0
                try clear hcz27_1
                try clear hcz27_2
                try clear hfz21_0
                try clear hfz21_1
                try clear hfz21_2
                try clear hfz25_0
                try clear hfz25_1
                try clear hfz25_2
                try clear hfz27_0
                try clear hfz27_1
                try clear hfz27_2
                try clear hx157_0
                try clear hx157_1
                try clear hx157_2
                try clear p157
                try clear p2
                try clear q157
                obtain⟨x7_3,x40_3,rfl,HA,HK3,HO_6,HO_7,HB⟩:=hrel
                cases gk with
                | zero => exact absurd HA.out (by simp [impl_Update.l1])
                | succ k3 =>
                  have H:=HA.out
                  clear HA
                  simp only [impl_Update.l1] at H
                  by_cases c29:x40_3 < (l0.length:Int)
                  · rw [if_pos c29] at H
                    have c29b0:decide (x40_3 < (l0.length:Int))=true:=decide_eq_true c29
                    clear c29
                    by_cases c30:0≤x40_3
                    · rw [if_pos c30] at H
                      have c30b0:decide (0≤x40_3)=true:=decide_eq_true c30
                      clear c30
                      by_cases c31:x40_3 < (l0.length:Int)
                      · rw [if_pos c31] at H
                        have c31b0:decide (x40_3 < (l0.length:Int))=true:=decide_eq_true c31
                        clear c31
                        replace H:=Option.bind_eq_some_iff.mp H
                        obtain⟨t165,A320,H⟩:=H
                        replace H:(if t165=true then (impl_Update.l1 k3 l1 x6_2 x7_3 l0 (l0.length:Int) (wrap64 (x40_3+1))) else (if x7_3.length < 8796093022208 then (impl_Update.l1 k3 l1 x6_2 (x7_3 ++ [(rd_T71 l0 x40_3).f0]) l0 (l0.length:Int) (wrap64 (x40_3+1))) else (none)))=some (r1,r2):=H
                        have A32:=Ia A320
                        clear A320
                        by_cases c33:t165=true
                        · subst c33
                          have H1:(impl_Update.l1 k3 l1 x6_2 x7_3 l0 (l0.length:Int) (wrap64 (x40_3+1)))=some (r1,r2):=by rw [if_pos rfl] at H;exact H
                          clear H
                          have H:=H1
                          clear H1
                          have H':=Ia H
                          clear H
                          have p163:0≤(x40_3:Int):=of_decide_eq_true (by first|(with_reducible assumption)|assumption)
                          have q163:x40_3 < (l0.length:Int):=of_decide_eq_true (by first|(with_reducible assumption)|assumption)
                          obtain⟨ad163,e163,hx163_0,hx163_1,hx163_2⟩:=at_T71 HR0.out x40_3 p163 q163
                          cases e163
                          replace hx163_0:=(HB.out.cell (World.block_lt_of_cell? w _ hx163_0)).trans hx163_0
                          replace hx163_1:=(HB.out.cell (World.block_lt_of_cell? w _ hx163_1)).trans hx163_1
                          replace hx163_2:=(HB.out.cell (World.block_lt_of_cell? w _ hx163_2)).trans hx163_2
                          replace p163:=eq_true p163
                          replace q163:=eq_true q163
                          go_wp2_with (first|((with_reducible refine gate_dst (N:=11) rfl ?_);refine box_event ?hg (N:=11) ?hd (cs:=#[.string (⟨#[]⟩:ByteArray),.int .i64 0,.int .i64 0]) (t:=71) ?hr ?_;(case hd=>rfl);(case hg=>rfl);(case hr=>first|(go_simp;done)|(go_simp;rfl));intro gb164 hg w34 hbox hb;have n0_:=Ia (Kd.R_below (by(with_reducible repeat(first|apply If|apply Ig|apply Ie));exact HO_6.out) hb);have n1_:=Ia (Kd.R_below (by(with_reducible repeat(first|apply If|apply Ig|apply Ie));exact HO_7.out) hb);have n2_:=Ia (Im (by repeat(first|(with_reducible first|exact HB.out|apply Ic|apply Ib|apply Id)|exact HB.out)) hb);have n3_:=Ia (hbox);have n4_:=Ia ((by rw [hg];exact(Ik (by repeat(first|(with_reducible first|exact HB.out|apply Ic|apply Ib|apply Id)|exact HB.out))):w.heap.size≤gb164));have n5_:=Ia ((by rw [hg];exact(Ik (by repeat(first|(with_reducible first|exact HB.out|apply Ic|apply Ib|apply Id)|exact HB.out))):w.heap.size≤gb164));clear HO_6;clear HO_7;clear HB;have HO_6:=n0_;have HO_7:=n1_;have HB:=n2_;have BK164:=n3_;have GW164:=n4_;have GE164:=n5_;clear n0_ n1_ n2_ n3_ n4_ n5_;clear hb hbox hg;have hcz35_0:w34.cell? ⟨gb164,0,none⟩=some (.string (⟨#[]⟩:ByteArray)):=(Ij BK164.out 0).trans rfl;have hcz35_1:w34.cell? ⟨gb164,1,none⟩=some (.int .i64 0):=(Ij BK164.out 1).trans rfl;have hcz35_2:w34.cell? ⟨gb164,2,none⟩=some (.int .i64 0):=(Ij BK164.out 2).trans rfl;have hfz35_0:=Ii BK164.out 0;have hfz35_1:=Ii BK164.out 1;have hfz35_2:=Ii BK164.out 2)|((with_reducible refine gate_callee (f:=73) rfl ?_);refine goesL_ (some 47) rfl rfl Try.func73 (by kernel_rfl) rfl #[.slice A1 l1.length c1,.string ((rd_T71 l0 x40_3).f0)] rfl (by(try simp only [List.map_toArray,List.map_cons,List.map_nil]);first|done|rfl|(simp only [List.length_drop,List.length_take];rfl)) ?_;(with_reducible refine(impl_named.calls _ _ l1 ((rd_T71 l0 x40_3).f0) true _ ?side1 ?side2 A32.out).mono ?_);(case side1=>exact Kd.C_below HR1.out (by repeat(first|(with_reducible first|exact HB.out|apply Ic|apply Ib|apply Id|refine Il ?_ GE164.out)|exact HB.out)));(case side2=>exact HC1.out);rintro e w36 ⟨rfl,hb⟩;refine⟨_,rfl,?_⟩;have n0_:=Ia (Kd.R_below (by(with_reducible repeat(first|apply If|apply Ig|apply Ie));exact(Kd.R_mono (Ip (p:=⟨gb164,2,none⟩) (Ip (p:=⟨gb164,1,none⟩) (Ip (p:=⟨gb164,0,none⟩) (Kd.R_types HO_6.out BK164.out (by decide)) (fun _ hk=>hk.2) (.string ((rd_T71 l0 x40_3).f0))) (fun _ hk=>hk.2) (.int .i64 ((rd_T71 l0 x40_3).f1))) (fun _ hk=>hk.2) (.int .i64 ((rd_T71 l0 x40_3).f2))) (fun _ h_=>h_.1))) hb);have n1_:=Ia (Kd.R_below (by(with_reducible repeat(first|apply If|apply Ig|apply Ie));exact(Kd.R_mono (Ip (p:=⟨gb164,2,none⟩) (Ip (p:=⟨gb164,1,none⟩) (Ip (p:=⟨gb164,0,none⟩) (Kd.R_types HO_7.out BK164.out (by decide)) (fun _ hk=>hk.2) (.string ((rd_T71 l0 x40_3).f0))) (fun _ hk=>hk.2) (.int .i64 ((rd_T71 l0 x40_3).f1))) (fun _ hk=>hk.2) (.int .i64 ((rd_T71 l0 x40_3).f2))) (fun _ h_=>h_.1))) hb);have n2_:=Ia (blk_below (g:=gb164) (o:=.cells #[.string ((rd_T71 l0 x40_3).f0),.int .i64 ((rd_T71 l0 x40_3).f1),.int .i64 ((rd_T71 l0 x40_3).f2)] 71 (0,0)) (by(with_reducible repeat(first|refine Io ?_ _|refine Ih ?_|refine In ?_ _));refine blk_put (cs:=#[.string ((rd_T71 l0 x40_3).f0),.int .i64 ((rd_T71 l0 x40_3).f1),.int .i64 0]) ?_ 2 _ rfl;(with_reducible repeat(first|refine Io ?_ _|refine Ih ?_|refine In ?_ _));refine blk_put (cs:=#[.string ((rd_T71 l0 x40_3).f0),.int .i64 0,.int .i64 0]) ?_ 1 _ rfl;(with_reducible repeat(first|refine Io ?_ _|refine Ih ?_|refine In ?_ _));refine blk_put (cs:=#[.string (⟨#[]⟩:ByteArray),.int .i64 0,.int .i64 0]) ?_ 0 _ rfl;(with_reducible repeat(first|refine Io ?_ _|refine Ih ?_|refine In ?_ _));exact BK164.out) hb);have n3_:=Ia (Im (by repeat(first|(with_reducible first|exact HB.out|apply Ic|apply Ib|apply Id|refine Il ?_ GE164.out)|exact HB.out)) hb);clear HO_6;clear HO_7;clear BK164;clear HB;have HO_6:=n0_;have HO_7:=n1_;have BK164:=n2_;have HB:=n3_;clear n0_ n1_ n2_ n3_;(try clear hb);(try clear hb2);(try clear hk);(try clear hi)))
                          go_roundg k3
                          case measure=>have:=HJ2.out;have:=HK2.out;have:=HK3.out;omega
                          case rel=>exact⟨(x7_3),(wrap64 (x40_3+1)),(by first|rfl|(simp;done)|(simp [*];done)),H',⟨by have:=HJ2.out;have:=HK2.out;have:=HK3.out;omega⟩,⟨by(with_reducible repeat(first|apply If|apply Ig|apply Ie));exact HO_6.out⟩,⟨by(with_reducible repeat(first|apply If|apply Ig|apply Ie));exact HO_7.out⟩,⟨by repeat(first|(with_reducible first|exact HB.out|apply Ic|apply Ib|apply Id|refine Il ?_ GE164.out)|exact HB.out)⟩⟩
                        · replace c33:=Bool.eq_false_iff.mpr c33
                          subst c33
                          have H1:(if x7_3.length < 8796093022208 then (impl_Update.l1 k3 l1 x6_2 (x7_3 ++ [(rd_T71 l0 x40_3).f0]) l0 (l0.length:Int) (wrap64 (x40_3+1))) else (none))=some (r1,r2):=by rw [if_neg (show ¬ (false=true) by decide)] at H;exact H
                          clear H
                          have H:=H1
                          clear H1
                          by_cases c37:x7_3.length < 8796093022208
                          · rw [if_pos c37] at H
                            have LMc37:=Ia c37
                            clear c37
                            obtain⟨y166,hy166⟩:∃ y_:List ByteArray,y_=(x7_3 ++ [(rd_T71 l0 x40_3).f0]):=⟨_,rfl⟩
                            replace H:(impl_Update.l1 k3 l1 x6_2 y166 l0 (l0.length:Int) (wrap64 (x40_3+1)))=some (r1,r2):=by first|(rw [hy166];with_reducible exact H)|(have H2_:=(Option.bind_some _ _).symm.trans H;rw [hy166];with_reducible exact H2_)|(have H2_:=(Option.bind_some _ _).symm.trans H;with_reducible exact H2_)|with_reducible exact H|(rw [hy166];exact H)|exact H
                            have Ny166:=Ia hy166
                            clear hy166
                            have H':=Ia H
                            clear H
                            have p163:0≤(x40_3:Int):=of_decide_eq_true (by first|(with_reducible assumption)|assumption)
                            have q163:x40_3 < (l0.length:Int):=of_decide_eq_true (by first|(with_reducible assumption)|assumption)
                            obtain⟨ad163,e163,hx163_0,hx163_1,hx163_2⟩:=at_T71 HR0.out x40_3 p163 q163
                            cases e163
                            replace hx163_0:=(HB.out.cell (World.block_lt_of_cell? w _ hx163_0)).trans hx163_0
                            replace hx163_1:=(HB.out.cell (World.block_lt_of_cell? w _ hx163_1)).trans hx163_1
                            replace hx163_2:=(HB.out.cell (World.block_lt_of_cell? w _ hx163_2)).trans hx163_2
                            replace p163:=eq_true p163
                            replace q163:=eq_true q163
                            go_wp2_with (first|((with_reducible refine gate_dst (N:=11) rfl ?_);refine box_event ?hg (N:=11) ?hd (cs:=#[.string (⟨#[]⟩:ByteArray),.int .i64 0,.int .i64 0]) (t:=71) ?hr ?_;(case hd=>rfl);(case hg=>rfl);(case hr=>first|(go_simp;done)|(go_simp;rfl));intro gb164 hg w38 hbox hb;have n0_:=Ia (Kd.R_below (by(with_reducible repeat(first|apply If|apply Ig|apply Ie));exact HO_6.out) hb);have n1_:=Ia (Kd.R_below (by(with_reducible repeat(first|apply If|apply Ig|apply Ie));exact HO_7.out) hb);have n2_:=Ia (Im (by repeat(first|(with_reducible first|exact HB.out|apply Ic|apply Ib|apply Id)|exact HB.out)) hb);have n3_:=Ia (hbox);have n4_:=Ia ((by rw [hg];exact(Ik (by repeat(first|(with_reducible first|exact HB.out|apply Ic|apply Ib|apply Id)|exact HB.out))):w.heap.size≤gb164));have n5_:=Ia ((by rw [hg];exact(Ik (by repeat(first|(with_reducible first|exact HB.out|apply Ic|apply Ib|apply Id)|exact HB.out))):w.heap.size≤gb164));clear HO_6;clear HO_7;clear HB;have HO_6:=n0_;have HO_7:=n1_;have HB:=n2_;have BK164:=n3_;have GW164:=n4_;have GE164:=n5_;clear n0_ n1_ n2_ n3_ n4_ n5_;clear hb hbox hg;have hcz39_0:w38.cell? ⟨gb164,0,none⟩=some (.string (⟨#[]⟩:ByteArray)):=(Ij BK164.out 0).trans rfl;have hcz39_1:w38.cell? ⟨gb164,1,none⟩=some (.int .i64 0):=(Ij BK164.out 1).trans rfl;have hcz39_2:w38.cell? ⟨gb164,2,none⟩=some (.int .i64 0):=(Ij BK164.out 2).trans rfl;have hfz39_0:=Ii BK164.out 0;have hfz39_1:=Ii BK164.out 1;have hfz39_2:=Ii BK164.out 2)|((with_reducible refine gate_callee (f:=73) rfl ?_);refine goesL_ (some 47) rfl rfl Try.func73 (by kernel_rfl) rfl #[.slice A1 l1.length c1,.string ((rd_T71 l0 x40_3).f0)] rfl (by(try simp only [List.map_toArray,List.map_cons,List.map_nil]);first|done|rfl|(simp only [List.length_drop,List.length_take];rfl)) ?_;(with_reducible refine(impl_named.calls _ _ l1 ((rd_T71 l0 x40_3).f0) false _ ?side1 ?side2 A32.out).mono ?_);(case side1=>exact Kd.C_below HR1.out (by repeat(first|(with_reducible first|exact HB.out|apply Ic|apply Ib|apply Id|refine Il ?_ GE164.out)|exact HB.out)));(case side2=>exact HC1.out);rintro e w40 ⟨rfl,hb⟩;refine⟨_,rfl,?_⟩;have n0_:=Ia (Kd.R_below (by(with_reducible repeat(first|apply If|apply Ig|apply Ie));exact(Kd.R_mono (Ip (p:=⟨gb164,2,none⟩) (Ip (p:=⟨gb164,1,none⟩) (Ip (p:=⟨gb164,0,none⟩) (Kd.R_types HO_6.out BK164.out (by decide)) (fun _ hk=>hk.2) (.string ((rd_T71 l0 x40_3).f0))) (fun _ hk=>hk.2) (.int .i64 ((rd_T71 l0 x40_3).f1))) (fun _ hk=>hk.2) (.int .i64 ((rd_T71 l0 x40_3).f2))) (fun _ h_=>h_.1))) hb);have n1_:=Ia (Kd.R_below (by(with_reducible repeat(first|apply If|apply Ig|apply Ie));exact(Kd.R_mono (Ip (p:=⟨gb164,2,none⟩) (Ip (p:=⟨gb164,1,none⟩) (Ip (p:=⟨gb164,0,none⟩) (Kd.R_types HO_7.out BK164.out (by decide)) (fun _ hk=>hk.2) (.string ((rd_T71 l0 x40_3).f0))) (fun _ hk=>hk.2) (.int .i64 ((rd_T71 l0 x40_3).f1))) (fun _ hk=>hk.2) (.int .i64 ((rd_T71 l0 x40_3).f2))) (fun _ h_=>h_.1))) hb);have n2_:=Ia (blk_below (g:=gb164) (o:=.cells #[.string ((rd_T71 l0 x40_3).f0),.int .i64 ((rd_T71 l0 x40_3).f1),.int .i64 ((rd_T71 l0 x40_3).f2)] 71 (0,0)) (by(with_reducible repeat(first|refine Io ?_ _|refine Ih ?_|refine In ?_ _));refine blk_put (cs:=#[.string ((rd_T71 l0 x40_3).f0),.int .i64 ((rd_T71 l0 x40_3).f1),.int .i64 0]) ?_ 2 _ rfl;(with_reducible repeat(first|refine Io ?_ _|refine Ih ?_|refine In ?_ _));refine blk_put (cs:=#[.string ((rd_T71 l0 x40_3).f0),.int .i64 0,.int .i64 0]) ?_ 1 _ rfl;(with_reducible repeat(first|refine Io ?_ _|refine Ih ?_|refine In ?_ _));refine blk_put (cs:=#[.string (⟨#[]⟩:ByteArray),.int .i64 0,.int .i64 0]) ?_ 0 _ rfl;(with_reducible repeat(first|refine Io ?_ _|refine Ih ?_|refine In ?_ _));exact BK164.out) hb);have n3_:=Ia (Im (by repeat(first|(with_reducible first|exact HB.out|apply Ic|apply Ib|apply Id|refine Il ?_ GE164.out)|exact HB.out)) hb);clear HO_6;clear HO_7;clear BK164;clear HB;have HO_6:=n0_;have HO_7:=n1_;have BK164:=n2_;have HB:=n3_;clear n0_ n1_ n2_ n3_;(try clear hb);(try clear hb2);(try clear hk);(try clear hi);have hcz41_0:w40.cell? ⟨gb164,0,none⟩=some (.string ((rd_T71 l0 x40_3).f0)):=(Ij BK164.out 0).trans rfl;have hcz41_1:w40.cell? ⟨gb164,1,none⟩=some (.int .i64 ((rd_T71 l0 x40_3).f1)):=(Ij BK164.out 1).trans rfl;have hcz41_2:w40.cell? ⟨gb164,2,none⟩=some (.int .i64 ((rd_T71 l0 x40_3).f2)):=(Ij BK164.out 2).trans rfl;have hfz41_0:=Ii BK164.out 0;have hfz41_1:=Ii BK164.out 1;have hfz41_2:=Ii BK164.out 2)|((with_reducible refine gate_builtin (b:=.append) (xs:=#[.tmp 49,.tmp 52]) rfl ?_);at_builtin;refine Kd.R_append Kd.string (w0:=w) w.heap.size rfl (.tmp 49) (.tmp 52) 46 9 (.string ⟨#[]⟩) 16 rfl Try.underlying46 info9 rfl (by decide) (by omega) u7 x7_3 ((rd_T71 l0 x40_3).f0) [.string ((rd_T71 l0 x40_3).f0)] (fun k_=>some k_≠(u6:Value).ownBlock) (fun _=>False) rfl rfl ?aP (fun _ hk=>hk.elim) ?aF ?aO ?aB ?aS ?aL ?_;(case aP=>exact rfl);(case aB=>exact(by repeat(first|(with_reducible first|exact HB.out|apply Ic|apply Ib|apply Id|refine Il ?_ GE164.out)|exact HB.out)));(case aF=>exact(fun k_ hk=>Kd.fresh' (Kd.R_lt (by(with_reducible repeat(first|apply If|apply Ig|apply Ie));exact HO_6.out)) k_ hk));(case aO=>exact(by(with_reducible repeat(first|apply If|apply Ig|apply Ie));exact HO_7.out));(case aS=>exact(Ik (by repeat(first|(with_reducible first|exact HB.out|apply Ic|apply Ib|apply Id|refine Il ?_ GE164.out)|exact HB.out))));(case aL=>have:=LMc37.out;omega);intro v167 w42 ho hb hg hat;rw [← Ny166.out] at ho;have n0_:=Ia (Kd.R_after (ok:=(fun _=>True)) (by(with_reducible repeat(first|apply If|apply Ig|apply Ie));exact Kd.R_mono HO_6.out (fun _ hk=>⟨trivial,hk⟩)) hg hat);have n1_:=Ia (blk_grown (g:=gb164) (o:=.cells #[.string ((rd_T71 l0 x40_3).f0),.int .i64 ((rd_T71 l0 x40_3).f1),.int .i64 ((rd_T71 l0 x40_3).f2)] 71 (0,0)) (by(with_reducible repeat(first|refine Io ?_ _|refine Ih ?_|refine In ?_ _));exact BK164.out) hg (Kd.R_ne HO_7.out BK164.out (by decide)));have n2_:=Ia (hb);have n3_:=Ia (ho);clear HO_6;clear BK164;clear HB;clear HO_7;have HO_6:=n0_;have BK164:=n1_;have HB:=n2_;have HO168:=n3_;clear n0_ n1_ n2_ n3_;clear ho hb hg hat))
                            go_roundg k3
                            case measure=>have:=HJ2.out;have:=HK2.out;have:=HK3.out;omega
                            case rel=>exact⟨(y166),(wrap64 (x40_3+1)),(by first|rfl|(simp;done)|(simp [*];done)),H',⟨by have:=HJ2.out;have:=HK2.out;have:=HK3.out;omega⟩,⟨by(with_reducible repeat(first|apply If|apply Ig|apply Ie));exact Kd.R_mono HO_6.out (fun _ hk=>hk.2)⟩,⟨by(with_reducible repeat(first|apply If|apply Ig|apply Ie));exact HO168.out⟩,⟨by repeat(first|(with_reducible first|exact HB.out|apply Ic|apply Ib|apply Id|refine Il ?_ GE164.out)|exact HB.out)⟩⟩
                          · rw [if_neg c37] at H
                            exact absurd H (by simp)
                      · rw [if_neg c31] at H
                        exact absurd H (by simp)
                    · rw [if_neg c30] at H
                      exact absurd H (by simp)
                  · rw [if_neg c29] at H
                    have c29b0:decide (x40_3 < (l0.length:Int))=false:=decide_eq_false c29
                    clear c29
                    simp only [Option.some.injEq,Prod.mk.injEq] at H
                    obtain⟨rfl,rfl⟩:=H
                    go_wp2
                    go_ret2
                    exact⟨_,_,by first|rfl|(simp [errW_none,errW_some] <;> rfl)|(simp [*,errW_none,errW_some] <;> rfl),by(with_reducible repeat(first|apply If|apply Ig|apply Ie));exact HO_6.out,by(with_reducible repeat(first|apply If|apply Ig|apply Ie));exact HO_7.out,by repeat(first|(with_reducible first|exact HB.out|apply Ic|apply Ib|apply Id)|exact HB.out)⟩

/-- A state of type 102 at block g of W; what its slices lead to came in by w0. -/
def IsS102 (w0 W : World) (g : Nat) (f0 : List Int) (f1 : Int) (f2 : Int) : Prop := ∃ A0 c0, W.heap[g]? = some (.cells #[.slice A0 f0.length c0, .int .i64 f1, .int .i64 f2] 102 (0, 0)) ∧ w0.heap.size ≤ g ∧ Kd.C (Kd.int .u8) w0 A0 f0.length f0
theorem IsS102.grown {w0 W : World} {g : Nat} {f0 : List Int} {f1 : Int} {f2 : Int} {W1 : World} {row : Option Nat} (h : IsS102 w0 W g f0 f1 f2) (hw : W.grownBy W1 row) (hne : some g ≠ row) : IsS102 w0 W1 g f0 f1 f2 := by
  obtain⟨A0,c0,hb,hg,hr0⟩:=h
  exact⟨A0,c0,blk_grown hb hw hne,hg,hr0⟩
theorem IsS102.own_neN {w0 W : World} {g : Nat} {f0 : List Int} {f1 : Int} {f2 : Int} {α : Type} {d : Kd α} {e : Nat} {base : Nat} {ok : Nat → Prop} {v : Value} {xs : List α} (h : IsS102 w0 W g f0 f1 f2) (ho : Kd.N d e W base ok v xs) (ht : e ≠ 102) : some g ≠ v.ownBlock := by
  obtain⟨A0,c0,hb,hg,hr0⟩:=h
  exact Kd.N_ne ho hb ht
theorem IsS102.fresh {w0 W : World} {g : Nat} {f0 : List Int} {f1 : Int} {f2 : Int} (h : IsS102 w0 W g f0 f1 f2) : ∀ k, W.heap.size ≤ k → k ≠ g := by
  obtain⟨A0,c0,hb,hg,hr0⟩:=h
  exact Kd.freshB hb
theorem IsS102.kept {w0 W : World} {g : Nat} {f0 : List Int} {f1 : Int} {f2 : Int} {W1 : World} {S : Nat → Prop} (h : IsS102 w0 W g f0 f1 f2) (hk : Kept W W1 S) (hne : ¬ S g) : IsS102 w0 W1 g f0 f1 f2 := by
  obtain⟨A0,c0,hb,hg,hr0⟩:=h
  exact⟨A0,c0,blk_kept hb hk hne,hg,hr0⟩
theorem IsS102.below {w0 W : World} {g : Nat} {f0 : List Int} {f1 : Int} {f2 : Int} {W1 : World} (h : IsS102 w0 W g f0 f1 f2) (hw : Below W.heap.size W W1) : IsS102 w0 W1 g f0 f1 f2 := h.grown (grown_of_below hw none) (by simp)
theorem IsS102.alloc {w0 W : World} {g : Nat} {f0 : List Int} {f1 : Int} {f2 : Int} (h : IsS102 w0 W g f0 f1 f2) (o : Obj) : IsS102 w0 (W.alloc o) g f0 f1 f2 := h.below (Ic (Below.refl _ _) o)
theorem IsS102.drewN {w0 W : World} {g : Nat} {f0 : List Int} {f1 : Int} {f2 : Int} (h : IsS102 w0 W g f0 f1 f2) (m : Nat) : IsS102 w0 (W.drewN m) g f0 f1 f2 := h
theorem IsS102.drew {w0 W : World} {g : Nat} {f0 : List Int} {f1 : Int} {f2 : Int} (h : IsS102 w0 W g f0 f1 f2) : IsS102 w0 W.drew g f0 f1 f2 := h
theorem IsS102.at_ {w0 W : World} {g : Nat} {f0 : List Int} {f1 : Int} {f2 : Int} {w' : World} {m : Nat} (hq : W.drewN m = w') (h : IsS102 w0 W g f0 f1 f2) : IsS102 w0 w' g f0 f1 f2 := by subst hq; exact IsS102.drewN h m
theorem IsS102.apart {w0 W : World} {g : Nat} {f0 : List Int} {f1 : Int} {f2 : Int} {α : Type} {d : Kd α} {e : Nat} {base : Nat} {ok : Nat → Prop} {v : Value} {xs : List α} (h : IsS102 w0 W g f0 f1 f2) (ho : d.R e W base ok v xs) (ht : ∀ q, q ∈ e :: d.E → q ≠ 102) : d.R e W base (fun k => ok k ∧ k ≠ g) v xs := by
  obtain⟨A0,c0,hb,hg,hr0⟩:=h
  exact Kd.R_types ho hb ht
theorem IsS102.own_ne {w0 W : World} {g : Nat} {f0 : List Int} {f1 : Int} {f2 : Int} {α : Type} {d : Kd α} {e : Nat} {base : Nat} {ok : Nat → Prop} {v : Value} {xs : List α} (h : IsS102 w0 W g f0 f1 f2) (ho : d.R e W base ok v xs) (ht : e ≠ 102) : some g ≠ v.ownBlock := by
  obtain⟨A0,c0,hb,hg,hr0⟩:=h
  exact Kd.R_ne ho hb ht
theorem IsS102.apartQ {w0 W : World} {g : Nat} {f0 : List Int} {f1 : Int} {f2 : Int} {α : Type} {d : Kd α} {e : Nat} {base : Nat} {ok : Nat → Prop} {v : Value} {xs : List α} (h : IsS102 w0 W g f0 f1 f2) (ho : d.Q e W base ok v xs) (ht : ∀ q, q ∈ e :: d.E → q ≠ 102) : d.Q e W base (fun k => ok k ∧ k ≠ g) v xs := by
  obtain⟨A0,c0,hb,hg,hr0⟩:=h
  exact Kd.Q_types ho hb ht
theorem IsS102.own_neQ {w0 W : World} {g : Nat} {f0 : List Int} {f1 : Int} {f2 : Int} {α : Type} {d : Kd α} {e : Nat} {base : Nat} {ok : Nat → Prop} {v : Value} {xs : List α} (h : IsS102 w0 W g f0 f1 f2) (ho : d.Q e W base ok v xs) (ht : e ≠ 102) : some g ≠ v.ownBlock := by
  obtain⟨A0,c0,hb,hg,hr0⟩:=h
  exact Kd.Q_ne ho hb ht
theorem IsS102.apartS {w0 W : World} {g : Nat} {f0 : List Int} {f1 : Int} {f2 : Int} {α : Type} {d : Kd α} {e : Nat} {base : Nat} {ok : Nat → Prop} {v : Value} {xs : List α} (h : IsS102 w0 W g f0 f1 f2) (ho : d.S e W base ok v xs) (ht : ∀ q, q ∈ e :: d.E → q ≠ 102) : d.S e W base (fun k => ok k ∧ k ≠ g) v xs := by
  obtain⟨A0,c0,hb,hg,hr0⟩:=h
  exact Kd.S_types ho hb ht
theorem IsS102.own_neS {w0 W : World} {g : Nat} {f0 : List Int} {f1 : Int} {f2 : Int} {α : Type} {d : Kd α} {e : Nat} {base : Nat} {ok : Nat → Prop} {v : Value} {xs : List α} (h : IsS102 w0 W g f0 f1 f2) (ho : d.S e W base ok v xs) (ht : e ≠ 102) : some g ≠ v.ownBlock := by
  obtain⟨A0,c0,hb,hg,hr0⟩:=h
  exact Kd.S_ne ho hb ht
theorem IsS102.lt {w0 W : World} {g : Nat} {f0 : List Int} {f1 : Int} {f2 : Int} (h : IsS102 w0 W g f0 f1 f2) : g < W.heap.size := by
  obtain⟨A0,c0,hb,hg,hr0⟩:=h
  exact blk_lt hb
theorem IsS102.ge {w0 W : World} {g : Nat} {f0 : List Int} {f1 : Int} {f2 : Int} (h : IsS102 w0 W g f0 f1 f2) : w0.heap.size ≤ g := by
  obtain⟨A0,c0,hb,hg,hr0⟩:=h
  exact hg
theorem IsS102.ne_blk {w0 W : World} {g : Nat} {f0 : List Int} {f1 : Int} {f2 : Int} {a : Nat} {cs : Array Value} {t : TypeId} {fr : Nat × Nat} (h : IsS102 w0 W g f0 f1 f2) (hb2 : W.heap[a]? = some (.cells cs t fr)) (ht : t ≠ 102) : g ≠ a := by
  obtain⟨A0,c0,hb,hg,hr0⟩:=h
  rintro rfl
  rw [hb] at hb2
  injection hb2 with hb2
  injection hb2 with _ ht2
  exact ht ht2.symm
theorem IsS102.far {w0 W : World} {g : Nat} {f0 : List Int} {f1 : Int} {f2 : Int} {p : Addr} (h : IsS102 w0 W g f0 f1 f2) (hne : g ≠ p.block) (u : Value) : IsS102 w0 (W.setCell p u) g f0 f1 f2 := by
  obtain⟨A0,c0,hb,hg,hr0⟩:=h
  exact⟨A0,c0,blk_far hb hne u,hg,hr0⟩
theorem cellS102_0 {W : World} {g : Nat} {A0 : Option Addr} {c0 : Nat} {f0 : List Int} {f1 : Int} {f2 : Int} (h : W.heap[g]? = some (.cells #[.slice A0 f0.length c0, .int .i64 f1, .int .i64 f2] 102 (0, 0))) : W.cell? ⟨g, 0, none⟩ = some (.slice A0 f0.length c0) := (Ij h 0).trans rfl
theorem cellS102_1 {W : World} {g : Nat} {A0 : Option Addr} {c0 : Nat} {f0 : List Int} {f1 : Int} {f2 : Int} (h : W.heap[g]? = some (.cells #[.slice A0 f0.length c0, .int .i64 f1, .int .i64 f2] 102 (0, 0))) : W.cell? ⟨g, 1, none⟩ = some (.int .i64 f1) := (Ij h 1).trans rfl
theorem IsS102.set_1 {w0 W : World} {g : Nat} {f0 : List Int} {f1 : Int} {f2 : Int} (h : IsS102 w0 W g f0 f1 f2) (x : Int) : IsS102 w0 (W.setCell ⟨g, 1, none⟩ (.int .i64 x)) g f0 x f2 := by
  obtain⟨A0,c0,hb,hg,hr0⟩:=h
  exact⟨A0,c0,by simpa using blk_set hb 1 (.int .i64 x),hg,hr0⟩
theorem cellS102_2 {W : World} {g : Nat} {A0 : Option Addr} {c0 : Nat} {f0 : List Int} {f1 : Int} {f2 : Int} (h : W.heap[g]? = some (.cells #[.slice A0 f0.length c0, .int .i64 f1, .int .i64 f2] 102 (0, 0))) : W.cell? ⟨g, 2, none⟩ = some (.int .i64 f2) := (Ij h 2).trans rfl
theorem IsS102.set_2 {w0 W : World} {g : Nat} {f0 : List Int} {f1 : Int} {f2 : Int} (h : IsS102 w0 W g f0 f1 f2) (x : Int) : IsS102 w0 (W.setCell ⟨g, 2, none⟩ (.int .i64 x)) g f0 f1 x := by
  obtain⟨A0,c0,hb,hg,hr0⟩:=h
  exact⟨A0,c0,by simpa using blk_set hb 2 (.int .i64 x),hg,hr0⟩
theorem IsS102.new (w0 W : World) (A0 : Option Addr) (c0 : Nat) (f0 : List Int) (f1 : Int) (f2 : Int) (hB : Below w0.heap.size w0 W) (hr0 : Kd.C (Kd.int .u8) w0 A0 f0.length f0) : IsS102 w0 (W.alloc (.cells #[.slice A0 f0.length c0, .int .i64 f1, .int .i64 f2] 102)) W.heap.size f0 f1 f2 := ⟨A0, c0, by simpa using heap_alloc_new W _, hB.size, hr0⟩

/-! ### spec_l1New: function 64 -/
def spec_l1New.l0 : Nat → List Int → Int → Int → Option (List Int × Int × Int)
  | 0, _, _, _ => none
  | k + 1, x0, x3, x4 => if x4 < (x0.length : Int) then (if 0 ≤ x4 then (spec_l1New.l0 k x0 (Go.bits .and .i64 (wrap64 ((wrap64 ((wrap64 (x3 * 137)) + (wrap64 (rd x0 x4)))) + 11)) 1073741823) (wrap64 (x4 + 1))) else (none)) else (some (x0, 0, x3))
def spec_l1New.f (k : Nat) (l0 : List Int) : Option (List Int × Int × Int) := spec_l1New.l0 k l0 (wrap64 (60293 + (l0.length : Int))) 0
theorem spec_l1New.mono_l : ∀ k, (∀ y0 y1 y2, LeO (spec_l1New.l0 k y0 y1 y2) (spec_l1New.l0 (k + 1) y0 y1 y2))
  | 0 => fun _ _ _ r h => by simp [spec_l1New.l0] at h
  | k + 1 => by
    have ih0:=spec_l1New.mono_l k
    · intro y0 y1 y2
      unfold spec_l1New.l0
      repeat' first
      | (with_reducible exact ih0 _ _ _)
      | (with_reducible exact LeO.refl _)
      | (with_reducible exact LeO.none _)
      | (with_reducible refine LeO.ite ?_ ?_)
      | (with_reducible refine LeO.bind ?_ (fun _ => ?_))
      | exact ih0 _ _ _
      | exact LeO.none _
      | refine LeO.ite ?_ ?_
      | refine LeO.bind ?_ (fun _ => ?_)
theorem spec_l1New.mono : ∀ a0 k, LeO (spec_l1New.f k a0) (spec_l1New.f (k + 1) a0) := by
  intro a0 k
  have ih0:=spec_l1New.mono_l k
  unfold spec_l1New.f
  repeat' first
      | (with_reducible exact ih0 _ _ _)
      | (with_reducible exact LeO.refl _)
      | (with_reducible exact LeO.none _)
      | (with_reducible refine LeO.ite ?_ ?_)
      | (with_reducible refine LeO.bind ?_ (fun _ => ?_))
      | exact ih0 _ _ _
      | exact LeO.none _
      | refine LeO.ite ?_ ?_
      | refine LeO.bind ?_ (fun _ => ?_)
set_option maxHeartbeats 8000000 in
set_option maxRecDepth 100000 in
theorem spec_l1New.calls (k : Nat) (A0 : Option Addr) (c0 : Nat) (l0 : List Int) (r1 : List Int) (r2 : Int) (r3 : Int) (w0 w : World) (hB : Below w0.heap.size w0 w) (hr0 : Kd.C (Kd.int .u8) w0 A0 l0.length l0) (hc0 : l0.length ≤ c0) (h : spec_l1New.f k l0 = some (r1, r2, r3)) :
    Calls Try.prog 64 #[.slice A0 l0.length c0] w fun e w'=>∃ g_:Nat,e=.returned (.pointer (some ⟨g_,0,none⟩))∧IsS102 w0 w' g_ r1 r2 r3∧Below w0.heap.size w0 w'∧Below w.heap.size w w':=by
  have hu102:=Try.underlying102
  have HR0:=Ia hr0
  have HC0:=Ia hc0
  clear hr0 hc0
  have HBW:=Ia (Below.refl w.heap.size w)
  have HW0:=Ia hB.size
  have HB:=Ia hB
  clear hB
  have H:(spec_l1New.l0 k l0 (wrap64 (60293+(l0.length:Int))) 0)=some (r1,r2,r3):=h
  clear h
  have H':=Ia H
  clear H
  go_enter Try.func64,Try.ntmps64
  go_wp2
  go_loopg [3,4] k (fun kq v3 v4 w'=>∃ (x3_1:Int) (qa:Int),v3=.int .i64 x3_1∧v4=.int .i64 qa∧Aside0 (spec_l1New.l0 kq l0 x3_1 qa=some (r1,r2,r3))∧Aside0 (kq≤k)∧Aside0 (Below w0.heap.size w0 w')∧Aside0 (Below w.heap.size w w'))
  case atStart=>exact⟨(wrap64 (60293+(l0.length:Int))),(0),(by first|rfl|(simp;done)|(simp [*];done)),(by first|rfl|(simp;done)|(simp [*];done)),H',⟨Nat.le_refl _⟩,⟨by repeat(first|(with_reducible first|exact HB.out|apply Ic|apply Ib|apply Id)|exact HB.out)⟩,⟨by repeat(first|(with_reducible first|exact HBW.out|apply Ic|apply Ib|apply Id)|exact HBW.out)⟩⟩
  case round=>
    clear H'
    obtain⟨x3_1,qa,rfl,rfl,HA,HK1,HB,HBW⟩:=hrel
    cases gk with
    | zero => exact absurd HA.out (by simp [spec_l1New.l0])
    | succ k1 =>
      have H:=HA.out
      clear HA
      simp only [spec_l1New.l0] at H
      by_cases c2:qa < (l0.length:Int)
      · rw [if_pos c2] at H
        have c2b0:decide (qa < (l0.length:Int))=true:=decide_eq_true c2
        clear c2
        by_cases c3:0≤qa
        · rw [if_pos c3] at H
          have c3b0:decide (0≤qa)=true:=decide_eq_true c3
          clear c3
          have H':=Ia H
          clear H
          have p169:0≤(qa:Int):=of_decide_eq_true (by first|(with_reducible assumption)|assumption)
          have q169:qa < (l0.length:Int):=of_decide_eq_true (by first|(with_reducible assumption)|assumption)
          obtain⟨ad169,e169,hx169_0⟩:=Kd.at_int HR0.out qa p169 q169
          cases e169
          replace hx169_0:=pw_cell_below HB.out hx169_0
          replace p169:=eq_true p169
          replace q169:=eq_true q169
          go_wp2
          go_roundg k1
          case measure=>have:=HK1.out;omega
          case rel=>exact⟨(Go.bits .and .i64 (wrap64 ((wrap64 ((wrap64 (x3_1*137))+(wrap64 (rd l0 qa))))+11)) 1073741823),(wrap64 (qa+1)),(by first|rfl|(simp;done)|(simp [*];done)),(by first|rfl|(simp;done)|(simp [*];done)),H',⟨by have:=HK1.out;omega⟩,⟨by repeat(first|(with_reducible first|exact HB.out|apply Ic|apply Ib|apply Id)|exact HB.out)⟩,⟨by repeat(first|(with_reducible first|exact HBW.out|apply Ic|apply Ib|apply Id)|exact HBW.out)⟩⟩
        · rw [if_neg c3] at H
          exact absurd H (by simp)
      · rw [if_neg c2] at H
        have c2b0:decide (qa < (l0.length:Int))=false:=decide_eq_false c2
        clear c2
        simp only [Option.some.injEq,Prod.mk.injEq] at H
        obtain⟨rfl,rfl,rfl⟩:=H
        go_wp2_with (first|((with_reducible refine gate_dst (N:=27) rfl ?_);refine box_event ?hg (N:=27) ?hd (cs:=#[.slice A0 l0.length c0,.int .i64 0,.int .i64 x3_1]) (t:=102) ?hr ?_;(case hd=>rfl);(case hg=>rfl);(case hr=>first|(go_simp;done)|(go_simp;rfl));intro gb170 hg w4 hbox hb;have n0_:=Ia (Im HBW.out hb);have n1_:=Ia (Im (by repeat(first|(with_reducible first|exact HB.out|apply Ic|apply Ib|apply Id)|exact HB.out)) hb);have n2_:=Ia (hbox);have n3_:=Ia ((by rw [hg];exact(Ik (by repeat(first|(with_reducible first|exact HBW.out|apply Ic|apply Ib|apply Id)|exact HBW.out))):w.heap.size≤gb170));have n4_:=Ia ((Nat.le_trans HW0.out (by rw [hg];exact(Ik (by repeat(first|(with_reducible first|exact HBW.out|apply Ic|apply Ib|apply Id)|exact HBW.out))):w.heap.size≤gb170):w0.heap.size≤gb170));clear HBW;clear HB;have HBW:=n0_;have HB:=n1_;have BK170:=n2_;have GW170:=n3_;have GE170:=n4_;clear n0_ n1_ n2_ n3_ n4_;clear hb hbox hg))
        go_ret
        exact⟨_,rfl,(show IsS102 w0 _ gb170 l0 0 x3_1 from⟨_,_,by(with_reducible repeat(first|refine Io ?_ _|refine Ih ?_|refine In ?_ _));exact BK170.out,GE170.out,HR0.out⟩),by repeat(first|(with_reducible first|exact HB.out|apply Ic|apply Ib|apply Id|refine Il ?_ GE170.out)|exact HB.out),by repeat(first|(with_reducible first|exact HBW.out|apply Ic|apply Ib|apply Id|refine Il ?_ GW170.out)|exact HBW.out)⟩

end Go.Proofs.Ytelcpfanjjfgdaa.HFnUpdated
