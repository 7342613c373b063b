-- Laid by myprint.py, a program of this repo, out of the kit's printer and this repo's own texts (wip/hand).
import Derived.Test.YtbdnpfjjaokdbaaHFnDecodedx0
import Derived.Test.YtbdnpfjjaokdbaaHFnDecodedx5
import Derived.Test.YtbdnpfjjaokdbaaHFnDecodedx6
namespace Go.Proofs.Ytbdnpfjjaokdbaa.HFnDecoded
open Go.RowKit Go.Proofs.YtbdnpfjjaokdbaaW.PrintWords Go.Proofs.YtbdnpfjjaokdbaaW.PrintLast Go.Proofs.YtbdnpfjjaokdbaaW.PrintMore
attribute [local go_sem] max2_int min2_int max_two min_two max_three min_three max_four min_four   -- for this text's walks alone
set_option linter.unusedVariables false
set_option linter.unusedSimpArgs false
theorem Ha : type_of% @Aside0.mk := @Aside0.mk
theorem Hb : type_of% @blk_cell := @blk_cell
theorem Hc : type_of% @blk_below := @blk_below
theorem Hd : type_of% @below_set := @below_set
theorem He : type_of% @blk_far := @blk_far
theorem Hf : type_of% @blk_frozen := @blk_frozen
theorem Hg : type_of% @blk_put := @blk_put
theorem Hh : type_of% @below_step := @below_step

/-! ### impl_Decode: function 36 -/
/-- The reader of bytes at block g: what is left, and whether it came too short. -/
def IsRd (w0 W : World) (g : Nat) (l : List Int) (s : Bool) : Prop :=
 w0.heap.size ≤ g ∧ ∃ A c, W.heap[g]? = some (.cells #[.slice A l.length c, .bool s] 73 (0, 0)) ∧ Kd.C (Kd.int .u8) w0 A l.length l ∧ l.length ≤ c
theorem rd_info : (Try.prog.info? 5).map (fun i => (i.zero, i.size, i.bytes)) = some (some (.int .u8 0), 1, 1) := by kernel_rfl
def nextV : List Int → Int
 | [] => 0
 | b :: _ => wrap64 b
theorem rd_cut {A : Option Addr} {c : Nat} {b : Int} {l' : List Int} {w : World} (h : Kd.C (Kd.int .u8) w A (b :: l').length (b :: l')) (hc : (b :: l').length ≤ c) :
  ∃ A1,(∀ W:World,(Instr.slice 37 (.slice A (b :: l').length c) (some (.int .i64 1)) none none).run Try.prog W=.ok (.slice A1 l'.length (c - 1)) W)∧Kd.C (Kd.int .u8) w A1 l'.length l'∧l'.length≤c - 1:=by
 obtain⟨i0,hi,hzz⟩:=Option.map_eq_some_iff.1 rd_info
 simp only [Prod.mk.injEq] at hzz
 obtain⟨-,hz1,-⟩:=hzz
 have hcut:=cut_from (P:=Try.prog) 37 5 .i64 Try.underlying37 hi 1 hz1 A (b :: l').length c 1 (by omega) (by simp;omega)
 have hd:=Kd.C_drop h (m:=1) (by simp) hc
 exact⟨if c=1 then A else A.map (·.add (1*1)),fun W=>(hcut W).trans rfl,hd,by simp at hc;omega⟩
theorem IsRd.keep {w0 W W' : World} {g : Nat} {l : List Int} {s : Bool} (h : IsRd w0 W g l s) (hb : W'.heap[g]? = W.heap[g]?) : IsRd w0 W' g l s := by
 obtain⟨h0,A,c,hh,r⟩:=h
 exact⟨h0,A,c,hb.trans hh,r⟩
theorem IsRd.below {w0 W W' : World} {g : Nat} {l : List Int} {s : Bool} (h : IsRd w0 W g l s) (hb : Below W.heap.size W W') : IsRd w0 W' g l s := by
 obtain⟨h0,A,c,hh,r⟩:=h
 exact⟨h0,A,c,Hc hh hb,r⟩
theorem IsRd.lt {w0 W : World} {g : Nat} {l : List Int} {s : Bool} (h : IsRd w0 W g l s) : g < W.heap.size := by
 obtain⟨_,A,c,hh,_⟩:=h
 exact blk_lt hh
def NextQ (w0 w : World) (g : Nat) (l : List Int) (s : Bool) (e : Ending) (w' : World) : Prop := e = .returned (.int .i64 (nextV l)) ∧ IsRd w0 w' g l.tail (s || l.isEmpty) ∧ Below w0.heap.size w0 w' ∧ KeepBut w w' g none
set_option maxHeartbeats 2000000 in
set_option maxRecDepth 100000 in
theorem rd_next (g : Nat) (l : List Int) (s : Bool) (w0 w : World) (hI : IsRd w0 w g l s) (hB : Below w0.heap.size w0 w) :
  Calls Try.prog 94 #[.pointer (some ⟨g,0,none⟩)] w (NextQ w0 w g l s):=by
 obtain⟨h0,A,c,hh,hC,hc⟩:=hI
 have huR:=Try.underlying73
 have HG:=Ha h0
 have HB:=Ha hB
 have HH:=Ha hh
 have HCC:=Ha hC
 have HLC:=Ha hc
 clear h0 hB hC hc
 have r0:w.cell? ⟨g,0,none⟩=some (.slice A l.length c):=(Hb hh 0).trans rfl
 have r1:w.cell? ⟨g,1,none⟩=some (.bool s):=(Hb hh 1).trans rfl
 have f0:=Hf hh 0
 have f1:=Hf hh 1
 clear hh
 cases l with
 | nil =>
  simp only [List.length_nil] at r0
  go_enter Try.func94,Try.ntmps94
  go_wp2
  go_ret
  refine⟨rfl,⟨HG.out,A,c,Hg HH.out 1 _ (by simp),HCC.out,HLC.out⟩,Hd HB.out HG.out,KeepBut.set_ (KeepBut.refl _ _ _) _ _⟩
 | cons b l' =>
  obtain⟨A1,hcut,hC1,hc1⟩:=rd_cut HCC.out HLC.out
  have HC1:=Ha hC1
  have HL1:=Ha hc1
  clear hC1 hc1
  obtain⟨ad,e,hx0⟩:=Kd.at_int HCC.out (0:Int) (by omega) (by simp)
  cases e
  have hx:=(HB.out.cell (World.block_lt_of_cell? w0 _ hx0)).trans hx0
  clear hx0
  rw [show ad.add (Int.toNat 0)=ad by cases ad;rfl] at hx
  have c1:(((b :: l').length:Int) == 0)=false:=beq_eq_false_iff_ne.2 (by simp;omega)
  have p0:(0 < (b :: l').length)=True:=eq_true (by simp)
  generalize hn:(b :: l').length=n at *
  clear hn
  go_enter Try.func94,Try.ntmps94
  go_wp2
  go_ret
  exact⟨rfl,⟨HG.out,A1,c - 1,Hg HH.out 0 _ (by simp),HC1.out,HL1.out⟩,Hd HB.out HG.out,KeepBut.set_ (KeepBut.refl _ _ _) _ _⟩

def lvU (l : List Int) : Int := if nextV l = 255 then Go.bits .or .i64 (wrap64 (nextV l.tail * 256)) (nextV l.tail.tail) else nextV l
def lvV (l : List Int) : Int := if Int.tmod (lvU l) 2 = 0 then wrap64 (Int.tdiv (lvU l) 2) else wrap64 (Int.tdiv (wrap64 (-(wrap64 (lvU l + 1)))) 2)
def lvL (l : List Int) : List Int := if nextV l = 255 then l.tail.tail.tail else l.tail
def lvS (l : List Int) (s : Bool) : Bool := if nextV l = 255 then ((s || l.isEmpty) || l.tail.isEmpty) || l.tail.tail.isEmpty else s || l.isEmpty
def LevelQ (w0 w : World) (g : Nat) (l : List Int) (s : Bool) (e : Ending) (w' : World) : Prop := e = .returned (.int .i64 (lvV l)) ∧ IsRd w0 w' g (lvL l) (lvS l s) ∧ Below w0.heap.size w0 w' ∧ KeepBut w w' g none
set_option maxHeartbeats 2000000 in
set_option maxRecDepth 100000 in
theorem rd_level (g : Nat) (l : List Int) (s : Bool) (w0 w : World) (hI : IsRd w0 w g l s) (hB : Below w0.heap.size w0 w) :
  Calls Try.prog 95 #[.pointer (some ⟨g,0,none⟩)] w (LevelQ w0 w g l s):=by
 have HI:=Ha hI
 have HB:=Ha hB
 have HK:=Ha (KeepBut.refl w g none)
 clear hI hB
 by_cases h255:nextV l=255
 ·have c1:(nextV l == 255)=true:=beq_iff_eq.2 h255
  have eU:lvU l=Go.bits .or .i64 (wrap64 (nextV l.tail*256)) (nextV l.tail.tail):=if_pos h255
  have HE:=Ha (show lvL l=l.tail.tail.tail∧lvS l s=(((s||l.isEmpty)||l.tail.isEmpty)||l.tail.tail.isEmpty) from⟨if_pos h255,if_pos h255⟩)
  have HU:=Ha eU
  clear h255 eU
  go_enter Try.func95,Try.ntmps95
  go_wp2_with (go_at_call 94;refine(rd_next g _ _ w0 _ HI.out HB.out).mono ?_;rintro e w1 ⟨rfl,hI1,hB1,hK1⟩;have n0_:=Ha hI1;have n1_:=Ha hB1;have n2_:=Ha (HK.out.trans hK1 (.inl rfl));clear HI HB HK hI1 hB1 hK1;have HI:=n0_;have HB:=n1_;have HK:=n2_;clear n0_ n1_ n2_)
  all_goals go_ret
  all_goals refine⟨?_,by rw [HE.out.1,HE.out.2];exact HI.out,HB.out,HK.out⟩
  ·rename_i hc
   unfold lvV
   rw [HU.out,if_pos (beq_iff_eq.1 hc)]
   rfl
  ·rename_i hc
   unfold lvV
   rw [HU.out,if_neg (beq_eq_false_iff_ne.1 hc)]
   rfl
 ·have c1:(nextV l == 255)=false:=beq_eq_false_iff_ne.2 h255
  have eU:lvU l=nextV l:=if_neg h255
  have HE:=Ha (show lvL l=l.tail∧lvS l s=(s||l.isEmpty) from⟨if_neg h255,if_neg h255⟩)
  have HU:=Ha eU
  clear h255 eU
  go_enter Try.func95,Try.ntmps95
  go_wp2_with (go_at_call 94;refine(rd_next g _ _ w0 _ HI.out HB.out).mono ?_;rintro e w1 ⟨rfl,hI1,hB1,hK1⟩;have n0_:=Ha hI1;have n1_:=Ha hB1;have n2_:=Ha (HK.out.trans hK1 (.inl rfl));clear HI HB HK hI1 hB1 hK1;have HI:=n0_;have HB:=n1_;have HK:=n2_;clear n0_ n1_ n2_)
  all_goals go_ret
  all_goals refine⟨?_,by rw [HE.out.1,HE.out.2];exact HI.out,HB.out,HK.out⟩
  ·rename_i hc
   unfold lvV
   rw [HU.out,if_pos (beq_iff_eq.1 hc)]
   rfl
  ·rename_i hc
   unfold lvV
   rw [HU.out,if_neg (beq_eq_false_iff_ne.1 hc)]
   rfl

attribute [local go_sem] turn_make
def dxV (l : List Int) : Int := wrap64 (Int.tmod (nextV l) 8 - 2)
def dyV (l : List Int) : Int := wrap64 (wrap64 (Int.tdiv (nextV l) 8) - 2)
def manyV (l : List Int) : Int := nextV l.tail
def twoS (l : List Int) (s : Bool) : Bool := (s || l.isEmpty) || l.tail.isEmpty
def badB (l : List Int) (s : Bool) : Bool := twoS l s || decide (2 < dxV l) || decide (2 < dyV l) || decide (16 < manyV l)
def BadQ (w0 w : World) (g : Nat) (e : Ending) (w' : World) : Prop := e = .returned (.slice none 0 0) ∧ (∃ l' s', IsRd w0 w' g l' s') ∧ Below w0.heap.size w0 w' ∧ KeepBut w w' g none
set_option maxHeartbeats 2000000 in
set_option maxRecDepth 100000 in
theorem rd_block_bad (g : Nat) (l : List Int) (s : Bool) (w0 w : World) (pw ph : Int) (A0 : Option Addr) (c0 : Nat) (px : List Int) (bl q : Int) (hI : IsRd w0 w g l s) (hB : Below w0.heap.size w0 w) (hbad : badB l s = true) :
  Calls Try.prog 75 #[.pointer (some ⟨g,0,none⟩),.agg #[.int .i64 pw,.int .i64 ph,.slice A0 px.length c0],.int .i64 bl,.int .i64 q] w (BadQ w0 w g):=by
 have huP:=Try.underlying27
 have HI:=Ha (hI.below (below_alloc (Below.refl _ _) (.cells #[.int .i64 pw,.int .i64 ph,.slice A0 px.length c0] 27 (0,0))))
 have HB:=Ha (hB.alloc hB.size (.cells #[.int .i64 pw,.int .i64 ph,.slice A0 px.length c0] 27 (0,0)))
 have HK:=Ha (keep_alloc (KeepBut.refl w g none) (.cells #[.int .i64 pw,.int .i64 ph,.slice A0 px.length c0] 27 (0,0)))
 have hW0:=hB.size
 clear hI hB
 cases h0:twoS l s with
 | true =>
  have cc0:(s||l.isEmpty||l.tail.isEmpty)=true:=h0
  clear h0 hbad
  go_enter Try.func75,Try.ntmps75
  go_wp2_with (go_at_call 94;refine(rd_next g _ _ w0 _ HI.out HB.out).mono ?_;rintro e w1 ⟨rfl,hI1,hB1,hK1⟩;have n0_:=Ha hI1;have n1_:=Ha hB1;have n2_:=Ha (HK.out.trans hK1 (.inl rfl));clear HI HB HK hI1 hB1 hK1;have HI:=n0_;have HB:=n1_;have HK:=n2_;clear n0_ n1_ n2_;obtain⟨-,AR,cR,hh_,-⟩:=HI.out;have rs_:=(Hb hh_ 1).trans rfl;clear hh_)
  go_ret
  exact⟨rfl,⟨_,_,HI.out⟩,HB.out,HK.out⟩
 | false =>
  have cc0:(s||l.isEmpty||l.tail.isEmpty)=false:=h0
  cases h1:decide (2 < dxV l) with
  | true =>
   have c1:decide (2 < wrap64 (Int.tmod (nextV l) 8 - 2))=true:=h1
   clear h0 h1 hbad
   go_enter Try.func75,Try.ntmps75
   go_wp2_with (go_at_call 94;refine(rd_next g _ _ w0 _ HI.out HB.out).mono ?_;rintro e w1 ⟨rfl,hI1,hB1,hK1⟩;have n0_:=Ha hI1;have n1_:=Ha hB1;have n2_:=Ha (HK.out.trans hK1 (.inl rfl));clear HI HB HK hI1 hB1 hK1;have HI:=n0_;have HB:=n1_;have HK:=n2_;clear n0_ n1_ n2_;obtain⟨-,AR,cR,hh_,-⟩:=HI.out;have rs_:=(Hb hh_ 1).trans rfl;clear hh_)
   go_ret
   exact⟨rfl,⟨_,_,HI.out⟩,HB.out,HK.out⟩
  | false =>
   have c1:decide (2 < wrap64 (Int.tmod (nextV l) 8 - 2))=false:=h1
   cases h2:decide (2 < dyV l) with
   | true =>
    have c2:decide (2 < wrap64 (wrap64 (Int.tdiv (nextV l) 8) - 2))=true:=h2
    clear h0 h1 h2 hbad
    go_enter Try.func75,Try.ntmps75
    go_wp2_with (go_at_call 94;refine(rd_next g _ _ w0 _ HI.out HB.out).mono ?_;rintro e w1 ⟨rfl,hI1,hB1,hK1⟩;have n0_:=Ha hI1;have n1_:=Ha hB1;have n2_:=Ha (HK.out.trans hK1 (.inl rfl));clear HI HB HK hI1 hB1 hK1;have HI:=n0_;have HB:=n1_;have HK:=n2_;clear n0_ n1_ n2_;obtain⟨-,AR,cR,hh_,-⟩:=HI.out;have rs_:=(Hb hh_ 1).trans rfl;clear hh_)
    go_ret
    exact⟨rfl,⟨_,_,HI.out⟩,HB.out,HK.out⟩
   | false =>
    have c2:decide (2 < wrap64 (wrap64 (Int.tdiv (nextV l) 8) - 2))=false:=h2
    have c3:decide (16 < nextV l.tail)=true:=by
     unfold badB at hbad
     rw [h0,h1,h2] at hbad
     simp only [Bool.false_or] at hbad
     exact hbad
    clear h0 h1 h2 hbad
    go_enter Try.func75,Try.ntmps75
    go_wp2_with (go_at_call 94;refine(rd_next g _ _ w0 _ HI.out HB.out).mono ?_;rintro e w1 ⟨rfl,hI1,hB1,hK1⟩;have n0_:=Ha hI1;have n1_:=Ha hB1;have n2_:=Ha (HK.out.trans hK1 (.inl rfl));clear HI HB HK hI1 hB1 hK1;have HI:=n0_;have HB:=n1_;have HK:=n2_;clear n0_ n1_ n2_;obtain⟨-,AR,cR,hh_,-⟩:=HI.out;have rs_:=(Hb hh_ 1).trans rfl;clear hh_)
    go_ret
    exact⟨rfl,⟨_,_,HI.out⟩,HB.out,HK.out⟩
def lvRest : Nat → List Int → List Int
 | 0, l => l
 | n + 1, l => lvL (lvRest n l)
def lvShort : Nat → List Int → Bool → Bool
 | 0, _, s => s
 | n + 1, l, s => lvS (lvRest n l) (lvShort n l s)
def lvAt (l : List Int) (j : Nat) : Int := lvV (lvRest j l)
def lvList (l : List Int) (i : Nat) : List Int := (List.range i).map (lvAt l) ++ List.replicate (16 - i) 0
theorem lvList_len (l : List Int) (i : Nat) (h : i < 16) : (lvList l i).length = 16 := by simp [lvList]; omega
theorem lvList_len' (l : List Int) (i : Nat) (h : i ≤ 16) : (lvList l i).length = 16 := by simp [lvList]; omega
theorem lvList_0 (l : List Int) : lvList l 0 = turnZ := by simp [lvList, turnZ]
theorem lvList_set (l : List Int) (i : Nat) (h : i < 16) : (lvList l i).set i (lvV (lvRest i l)) = lvList l (i + 1) := by
 unfold lvList
 rw [List.set_append_right _ _ (by simp),List.range_succ,List.map_append]
 simp only [List.length_map,List.length_range,Nat.sub_self]
 rw [show 16 - i=(16 - (i+1))+1 by omega,List.replicate_succ]
 simp [lvAt]
/-- The pixels that are laid so far. -/
def outV (o m : List Int) (q : Int) (j : Nat) : Int := mn (mx (wrap64 (rd o (j : Int) + wrap64 (q * rd m (j : Int)))) 0) 255
def outG (o m : List Int) (q : Int) (i : Nat) : List Int := (List.range i).map (outV o m q) ++ o.drop i
theorem outG_len (o m : List Int) (q : Int) (i : Nat) (h : i ≤ o.length) : (outG o m q i).length = o.length := by simp [outG]; omega
theorem outG_set (o m : List Int) (q : Int) (i : Nat) (h : i < o.length) : (outG o m q i).set i (outV o m q i) = outG o m q (i + 1) := by
 unfold outG
 rw [List.set_append_right _ _ (by simp),List.range_succ,List.map_append]
 simp only [List.length_map,List.length_range,Nat.sub_self]
 rw [List.drop_eq_getElem_cons h]
 simp [List.set]
theorem outG_rd (o m : List Int) (q : Int) (i : Nat) (h : i < o.length) : rd (outG o m q i) (i : Int) = rd o (i : Int) := by
 unfold outG rd
 simp only [Int.toNat_natCast,List.getD_eq_getElem?_getD]
 rw [List.getElem?_append_right (by simp)]
 simp
theorem lv_reads {w : World} {gL : Nat} {l : List Int} {i : Nat} (h : w.heap[gL]? = some (.cells (turnC (lvList l i)) 2 (0, 0))) (hi : i ≤ 16) : Kd.C (Kd.int .i64) w (some ⟨gL, 0, none⟩) (lvList l i).length (lvList l i) :=
 (Kd.R_reads' (turn_R (n:=(lvList l i).length) (base:=0) (ok:=fun _=>True) h rfl (Nat.zero_le _) (by rw [lvList_len' _ _ hi];omega) trivial)).2.2
def GoodQ (w0 w : World) (g : Nat) (l : List Int) (s : Bool) (xs : List Int) (e : Ending) (w' : World) : Prop :=
 ∃ v : Value, e = .returned v ∧ Kd.R (Kd.int .i64) 2 w' w.heap.size (fun k => k ≠ g) v xs ∧ IsRd w0 w' g l s ∧ Below w0.heap.size w0 w' ∧ KeepBut w w' g none
set_option maxHeartbeats 4000000 in
set_option maxRecDepth 100000 in
theorem rd_block_short (g : Nat) (l : List Int) (s : Bool) (w0 w : World) (pw ph : Int) (A0 : Option Addr) (c0 : Nat) (px : List Int) (bl q : Int) (m : Nat) (hI : IsRd w0 w g l s) (hB : Below w0.heap.size w0 w) (hbad : badB l s = false) (hr0 : Kd.C (Kd.int .i64) w0 A0 px.length px) (hc0 : px.length ≤ c0)
  (hm:nextV l.tail=(m:Int)) (hsh:lvShort m l.tail.tail (twoS l s)=true) :
  Calls Try.prog 75 #[.pointer (some ⟨g,0,none⟩),.agg #[.int .i64 pw,.int .i64 ph,.slice A0 px.length c0],.int .i64 bl,.int .i64 q] w (BadQ w0 w g):=by
 have huP:=Try.underlying27
 have HI:=Ha (hI.below (below_alloc (Below.refl _ _) (.cells #[.int .i64 pw,.int .i64 ph,.slice A0 px.length c0] 27 (0,0))))
 have HB:=Ha (hB.alloc hB.size (.cells #[.int .i64 pw,.int .i64 ph,.slice A0 px.length c0] 27 (0,0)))
 have HK:=Ha (keep_alloc (KeepBut.refl w g none) (.cells #[.int .i64 pw,.int .i64 ph,.slice A0 px.length c0] 27 (0,0)))
 have hW0:=hB.size
 clear hI hB
 have B5:=Ha (blk_new w (.cells #[.int .i64 pw,.int .i64 ph,.slice A0 px.length c0] 27 (0,0)))
 have HGB:=Ha (show w.heap.size≠g from(blk_ne HI.out.2.choose_spec.choose_spec.1 B5.out (by decide)).symm)
 have HW0:=Ha hW0
 have HR0:=Ha hr0
 have HC0:=Ha hc0
 have HSH:=Ha hsh
 clear hr0 hc0 hsh
 unfold badB at hbad
 simp only [Bool.or_eq_false_iff] at hbad
 obtain⟨⟨⟨h0,h1⟩,h2⟩,h3⟩:=hbad
 have cc0:(s||l.isEmpty||l.tail.isEmpty)=false:=h0
 have c1:decide (2 < wrap64 (Int.tmod (nextV l) 8 - 2))=false:=h1
 have c2:decide (2 < wrap64 (wrap64 (Int.tdiv (nextV l) 8) - 2))=false:=h2
 have h4 : ¬ 16 < nextV l.tail:=of_decide_eq_false h3
 rw [hm] at h4
 have c3:decide (16 < (m:Int))=false:=decide_eq_false h4
 have HM:=Ha (show m≤16 by omega)
 clear h0 h1 h2 h3 h4
 go_enter Try.func75,Try.ntmps75
 go_wp2_with (go_at_call 94;refine(rd_next g _ _ w0 _ HI.out HB.out).mono ?_;rintro e w1 ⟨rfl,hI1,hB1,hK1⟩;have n0_:=Ha hI1;have n1_:=Ha hB1;have n2_:=Ha (HK.out.trans hK1 (.inl rfl));have n3_:=Ha (hK1.blk B5.out HGB.out (by simp));clear HI HB HK B5 hI1 hB1 hK1;have HI:=n0_;have HB:=n1_;have HK:=n2_;have B5:=n3_;clear n0_ n1_ n2_ n3_;obtain⟨-,AR,cR,hh_,-⟩:=HI.out;have rs_:=(Hb hh_ 1).trans rfl;clear hh_)
 clear rs_
 have BL:=Ha (Go.Deep.blk_alloc_new w1 (.cells (turnC turnZ) 2 (0,0)))
 have hb_:=below_alloc (Below.refl w1.heap.size w1) (.cells (turnC turnZ) 2 (0,0))
 have n0_:=Ha (HI.out.below hb_)
 have n1_:=Ha (HB.out.alloc HB.out.size (.cells (turnC turnZ) 2 (0,0)))
 have n2_:=Ha (keep_alloc HK.out (.cells (turnC turnZ) 2 (0,0)))
 have n3_:=Ha (Hc B5.out hb_)
 have HGL:=Ha (show w1.heap.size≠g from Nat.ne_of_gt HI.out.lt)
 have HGW:=Ha (show w.heap.size < w1.heap.size from blk_lt B5.out)
 clear HI HB HK B5 hb_
 have HI:=n0_
 have HB:=n1_
 have HK:=n2_
 have B5:=n3_
 clear n0_ n1_ n2_ n3_
 revert BL HGL HGW HI HB HK B5
 generalize w1.alloc (.cells (turnC turnZ) 2 (0,0))=W2
 generalize w1.heap.size=gL
 intro BL HGL HGW HI HB HK B5
 go_loopg [46] m (fun gg v46 w'=>∃ i:Nat,Aside0 (i≤m∧m - i≤gg)∧v46=.int .i64 (i:Int)∧Aside0 (IsRd w0 w' g (lvRest i l.tail.tail) (lvShort i l.tail.tail (twoS l s)))∧Aside0 (w'.heap[gL]? = some (.cells (turnC (lvList l.tail.tail i)) 2 (0,0)))∧Aside0 (w'.heap[w.heap.size]? = some (.cells #[.int .i64 pw,.int .i64 ph,.slice A0 px.length c0] 27 (0,0)))∧Aside0 (Below w0.heap.size w0 w')∧Aside0 (KeepBut w w' g none))
 case atStart=>exact⟨0,⟨Nat.zero_le _,Nat.le_refl _⟩,rfl,HI,⟨by rw [lvList_0];exact BL.out⟩,B5,HB,HK⟩
 case round=>
  clear HI HB HK BL B5
  obtain⟨i,HX,rfl,HI,BL,B5,HB,HK⟩:=hrel
  by_cases hlt:i < m
  ·have hltb:decide ((i:Int) < (m:Int))=true:=decide_eq_true (by omega)
   have HLT:=Ha hlt
   have HWR:=Ha (show wrap64 ((i:Int)+1)=((i+1:Nat):Int) by have:=HM.out;unfold wrap64;omega)
   have hi16:=Ha (show i < 16 by have:=HM.out;omega)
   have p0:(0≤(i:Int))=True:=eq_true (by omega)
   have q0:((i:Int) < 16)=True:=eq_true (by have:=HM.out;omega)
   go_wp2_with (go_at_call 95;refine(rd_level g _ _ w0 _ HI.out HB.out).mono ?_;rintro e w1 ⟨rfl,hI1,hB1,hK1⟩;have n0_:=Ha hI1;have n1_:=Ha hB1;have n2_:=Ha (HK.out.trans hK1 (.inl rfl));have n3_:=Ha (hK1.blk BL.out HGL.out (by simp));have n4_:=Ha (hK1.blk B5.out HGB.out (by simp));clear HI HB HK BL B5 hI1 hB1 hK1;have HI:=n0_;have HB:=n1_;have HK:=n2_;have BL:=n3_;have B5:=n4_;clear n0_ n1_ n2_ n3_ n4_;have xo:=turn_cell BL.out i (by rw [lvList_len _ _ hi16.out];have:=hi16.out;omega);have fo:=Hf BL.out i)
   have BL2:=Ha (turn_put BL.out i (lvV (lvRest i l.tail.tail)))
   rw [lvList_set _ _ hi16.out] at BL2
   have HI2:=Ha (HI.out.keep (Below.heap_setCell _ ⟨gL,i,none⟩ (.int .i64 (lvV (lvRest i l.tail.tail))) g HGL.out.symm))
   have B52:=Ha (He (p:=⟨gL,i,none⟩) B5.out (Nat.ne_of_lt HGW.out) (.int .i64 (lvV (lvRest i l.tail.tail))))
   have KK:=Ha (keep_far (p:=⟨gL,i,none⟩) HK.out (Nat.le_of_lt (Nat.lt_of_le_of_lt (Nat.le_of_eq rfl) HGW.out)) (.int .i64 (lvV (lvRest i l.tail.tail))))
   have BB:=Ha (Hd (w:=w0) (g:=gL) (j:=i) (v:=.int .i64 (lvV (lvRest i l.tail.tail))) HB.out (Nat.le_trans HW0.out (Nat.le_of_lt HGW.out)))
   go_roundg (m - (i+1))
   case measure=>have:=HX.out;have:=HLT.out;omega
   case rel=>exact⟨i+1,⟨HLT.out,Nat.le_refl _⟩,by rw [HWR.out],HI2,BL2,B52,BB,KK⟩
  ·have hltb:decide ((i:Int) < (m:Int))=false:=decide_eq_false (by omega)
   have hi:i=m:=by have:=HX.out;omega
   subst hi
   have rs_:wr.cell? ⟨g,1,none⟩=some (.bool true):=by
    obtain⟨-,AR,cR,hh_,-⟩:=HI.out
    rw [HSH.out] at hh_
    exact(Hb hh_ 1).trans rfl
   go_wp2
   go_ret
   exact⟨rfl,⟨_,_,HI.out⟩,HB.out,HK.out⟩
attribute [local go_sem] max2_int min2_int
set_option maxHeartbeats 4000000 in
set_option maxRecDepth 100000 in
theorem rd_block_good (k : Nat) (g : Nat) (l : List Int) (s : Bool) (w0 w : World) (pw ph : Int) (A0 : Option Addr) (c0 : Nat) (px : List Int) (bl q : Int) (m : Nat) (o mo : List Int) (hI : IsRd w0 w g l s) (hB : Below w0.heap.size w0 w) (hbad : badB l s = false) (hr0 : Kd.C (Kd.int .i64) w0 A0 px.length px) (hc0 : px.length ≤ c0)
  (hm:nextV l.tail=(m:Int)) (hsh:lvShort m l.tail.tail (twoS l s)=false) (ho:impl_Picture_at.f k pw ph px bl (dxV l) (dyV l)=some o) (hmo:impl_turn.f (lvList l.tail.tail m)=some mo) (ho16:o.length=16) (hm16:mo.length=16) :
  Calls Try.prog 75 #[.pointer (some ⟨g,0,none⟩),.agg #[.int .i64 pw,.int .i64 ph,.slice A0 px.length c0],.int .i64 bl,.int .i64 q] w (GoodQ w0 w g (lvRest m l.tail.tail) false (outG o mo q 16)):=by
 have huP:=Try.underlying27
 have HI:=Ha (hI.below (below_alloc (Below.refl _ _) (.cells #[.int .i64 pw,.int .i64 ph,.slice A0 px.length c0] 27 (0,0))))
 have HB:=Ha (hB.alloc hB.size (.cells #[.int .i64 pw,.int .i64 ph,.slice A0 px.length c0] 27 (0,0)))
 have HK:=Ha (keep_alloc (KeepBut.refl w g none) (.cells #[.int .i64 pw,.int .i64 ph,.slice A0 px.length c0] 27 (0,0)))
 have hW0:=hB.size
 clear hI hB
 have B5:=Ha (blk_new w (.cells #[.int .i64 pw,.int .i64 ph,.slice A0 px.length c0] 27 (0,0)))
 have HGB:=Ha (show w.heap.size≠g from(blk_ne HI.out.2.choose_spec.choose_spec.1 B5.out (by decide)).symm)
 have HW0:=Ha hW0
 have HR0:=Ha hr0
 have HC0:=Ha hc0
 have HSH:=Ha hsh
 have HO:=Ha (show impl_Picture_at.f k pw ph px bl (wrap64 (Int.tmod (nextV l) 8 - 2)) (wrap64 (wrap64 (Int.tdiv (nextV l) 8) - 2))=some o from ho)
 have HMO:=Ha hmo
 have H16:=Ha (And.intro ho16 hm16)
 clear hr0 hc0 hsh ho hmo ho16 hm16
 unfold badB at hbad
 simp only [Bool.or_eq_false_iff] at hbad
 obtain⟨⟨⟨h0,h1⟩,h2⟩,h3⟩:=hbad
 have cc0:(s||l.isEmpty||l.tail.isEmpty)=false:=h0
 have c1:decide (2 < wrap64 (Int.tmod (nextV l) 8 - 2))=false:=h1
 have c2:decide (2 < wrap64 (wrap64 (Int.tdiv (nextV l) 8) - 2))=false:=h2
 have h4 : ¬ 16 < nextV l.tail:=of_decide_eq_false h3
 rw [hm] at h4
 have c3:decide (16 < (m:Int))=false:=decide_eq_false h4
 have HM:=Ha (show m≤16 by omega)
 clear h0 h1 h2 h3 h4
 go_enter Try.func75,Try.ntmps75
 go_wp2_with (go_at_call 94;refine(rd_next g _ _ w0 _ HI.out HB.out).mono ?_;rintro e w1 ⟨rfl,hI1,hB1,hK1⟩;have n0_:=Ha hI1;have n1_:=Ha hB1;have n2_:=Ha (HK.out.trans hK1 (.inl rfl));have n3_:=Ha (hK1.blk B5.out HGB.out (by simp));clear HI HB HK B5 hI1 hB1 hK1;have HI:=n0_;have HB:=n1_;have HK:=n2_;have B5:=n3_;clear n0_ n1_ n2_ n3_;obtain⟨-,AR,cR,hh_,-⟩:=HI.out;have rs_:=(Hb hh_ 1).trans rfl;clear hh_)
 clear rs_
 have BL:=Ha (Go.Deep.blk_alloc_new w1 (.cells (turnC turnZ) 2 (0,0)))
 have hb_:=below_alloc (Below.refl w1.heap.size w1) (.cells (turnC turnZ) 2 (0,0))
 have n0_:=Ha (HI.out.below hb_)
 have n1_:=Ha (HB.out.alloc HB.out.size (.cells (turnC turnZ) 2 (0,0)))
 have n2_:=Ha (keep_alloc HK.out (.cells (turnC turnZ) 2 (0,0)))
 have n3_:=Ha (Hc B5.out hb_)
 have HGL:=Ha (show w1.heap.size≠g from Nat.ne_of_gt HI.out.lt)
 have HGW:=Ha (show w.heap.size < w1.heap.size from blk_lt B5.out)
 clear HI HB HK B5 hb_
 have HI:=n0_
 have HB:=n1_
 have HK:=n2_
 have B5:=n3_
 clear n0_ n1_ n2_ n3_
 revert BL HGL HGW HI HB HK B5
 generalize w1.alloc (.cells (turnC turnZ) 2 (0,0))=W2
 generalize w1.heap.size=gL
 intro BL HGL HGW HI HB HK B5
 go_loopg [46] m (fun gg v46 w'=>∃ i:Nat,Aside0 (i≤m∧m - i≤gg)∧v46=.int .i64 (i:Int)∧Aside0 (IsRd w0 w' g (lvRest i l.tail.tail) (lvShort i l.tail.tail (twoS l s)))∧Aside0 (w'.heap[gL]? = some (.cells (turnC (lvList l.tail.tail i)) 2 (0,0)))∧Aside0 (w'.heap[w.heap.size]? = some (.cells #[.int .i64 pw,.int .i64 ph,.slice A0 px.length c0] 27 (0,0)))∧Aside0 (Below w0.heap.size w0 w')∧Aside0 (KeepBut w w' g none))
 case atStart=>exact⟨0,⟨Nat.zero_le _,Nat.le_refl _⟩,rfl,HI,⟨by rw [lvList_0];exact BL.out⟩,B5,HB,HK⟩
 case round=>
  clear HI HB HK BL B5
  obtain⟨i,HX,rfl,HI,BL,B5,HB,HK⟩:=hrel
  by_cases hlt:i < m
  ·have hltb:decide ((i:Int) < (m:Int))=true:=decide_eq_true (by omega)
   have HLT:=Ha hlt
   have HWR:=Ha (show wrap64 ((i:Int)+1)=((i+1:Nat):Int) by have:=HM.out;unfold wrap64;omega)
   have hi16:=Ha (show i < 16 by have:=HM.out;omega)
   have p0:(0≤(i:Int))=True:=eq_true (by omega)
   have q0:((i:Int) < 16)=True:=eq_true (by have:=HM.out;omega)
   go_wp2_with (go_at_call 95;refine(rd_level g _ _ w0 _ HI.out HB.out).mono ?_;rintro e w1 ⟨rfl,hI1,hB1,hK1⟩;have n0_:=Ha hI1;have n1_:=Ha hB1;have n2_:=Ha (HK.out.trans hK1 (.inl rfl));have n3_:=Ha (hK1.blk BL.out HGL.out (by simp));have n4_:=Ha (hK1.blk B5.out HGB.out (by simp));clear HI HB HK BL B5 hI1 hB1 hK1;have HI:=n0_;have HB:=n1_;have HK:=n2_;have BL:=n3_;have B5:=n4_;clear n0_ n1_ n2_ n3_ n4_;have xo:=turn_cell BL.out i (by rw [lvList_len _ _ hi16.out];have:=hi16.out;omega);have fo:=Hf BL.out i)
   have BL2:=Ha (turn_put BL.out i (lvV (lvRest i l.tail.tail)))
   rw [lvList_set _ _ hi16.out] at BL2
   have HI2:=Ha (HI.out.keep (Below.heap_setCell _ ⟨gL,i,none⟩ (.int .i64 (lvV (lvRest i l.tail.tail))) g HGL.out.symm))
   have B52:=Ha (He (p:=⟨gL,i,none⟩) B5.out (Nat.ne_of_lt HGW.out) (.int .i64 (lvV (lvRest i l.tail.tail))))
   have KK:=Ha (keep_far (p:=⟨gL,i,none⟩) HK.out (Nat.le_of_lt (Nat.lt_of_le_of_lt (Nat.le_of_eq rfl) HGW.out)) (.int .i64 (lvV (lvRest i l.tail.tail))))
   have BB:=Ha (Hd (w:=w0) (g:=gL) (j:=i) (v:=.int .i64 (lvV (lvRest i l.tail.tail))) HB.out (Nat.le_trans HW0.out (Nat.le_of_lt HGW.out)))
   go_roundg (m - (i+1))
   case measure=>have:=HX.out;have:=HLT.out;omega
   case rel=>exact⟨i+1,⟨HLT.out,Nat.le_refl _⟩,by rw [HWR.out],HI2,BL2,B52,BB,KK⟩
  ·have hltb:decide ((i:Int) < (m:Int))=false:=decide_eq_false (by omega)
   have hi:i=m:=by have:=HX.out;omega
   subst hi
   have rs_:wr.cell? ⟨g,1,none⟩=some (.bool false):=by
    obtain⟨-,AR,cR,hh_,-⟩:=HI.out
    rw [HSH.out] at hh_
    exact(Hb hh_ 1).trans rfl
   have b0:wr.cell? ⟨w.heap.size,0,none⟩=some (.int .i64 pw):=(Hb B5.out 0).trans rfl
   have b1:wr.cell? ⟨w.heap.size,1,none⟩=some (.int .i64 ph):=(Hb B5.out 1).trans rfl
   have b2:wr.cell? ⟨w.heap.size,2,none⟩=some (.slice A0 px.length c0):=(Hb B5.out 2).trans rfl
   go_wp2_with (first|(go_at_call 78;have hA_:=impl_Picture_at.calls k pw ph A0 c0 px bl _ _ o wr (Kd.C_below HR0.out HB.out) HC0.out HO.out;(with_reducible refine hA_.mono ?_);clear hA_;rintro e w2 ⟨v2,rfl,ho2,hb2⟩;have HGT:=Ha HI.out.lt;have HWW:=Ha HK.out.1;obtain⟨A2,c2_,ev2⟩:=Kd.R_slice ho2;subst ev2;have n0_:=Ha (HI.out.below hb2);have n1_:=Ha (HB.out.trans (hb2.mono HB.out.size));have n2_:=Ha (HK.out.trans (KeepBut.of_below hb2 g none) (.inl rfl));have n3_:=Ha (Hc BL.out hb2);have RO:=Ha ho2;clear HI HB HK BL B5 hb2 ho2;have HI:=n0_;have HB:=n1_;have HK:=n2_;have BL:=n3_;clear n0_ n1_ n2_ n3_)|(go_at_call 56;have hT_:=impl_turn.calls _ 16 (lvList l.tail.tail i) mo w2 (lv_reads BL.out HM.out) (Nat.le_of_eq (lvList_len' _ _ HM.out)) HMO.out;rw [lvList_len' _ _ HM.out] at hT_;(with_reducible refine hT_.mono ?_);clear hT_;rintro e w3 ⟨v3,rfl,ho3,hb3⟩))
   clear rs_ b0 b1 b2
   have l16:o.length=16:=H16.out.1
   have m16:mo.length=16:=H16.out.2
   obtain⟨gO,cO,eO,gbO,glO,_⟩:=Kd.R_form RO.out (by omega)
   injection eO with ea en ec
   subst ea ec
   clear en
   obtain⟨gM,cM,eM,gbM,glM,_⟩:=Kd.R_form ho3 (by omega)
   subst eM
   have n0_:=Ha (Kd.R_mono (Kd.R_bound (Kd.R_below RO.out hb3)) (fun k hk=>(show k≠g by have:=HGT.out;have:=hk.2.1;omega)))
   have RO2:=Ha (Kd.R_lower n0_.out HWW.out)
   have RM:=Ha (Kd.R_mono (Kd.R_bound ho3) (fun k hk=>(show k≠gO by have:=hk.2.1;omega)))
   have n1_:=Ha (HI.out.below hb3)
   have n2_:=Ha (HB.out.trans (hb3.mono HB.out.size))
   have n3_:=Ha (HK.out.trans (KeepBut.of_below hb3 g none) (.inl rfl))
   have HGO:=Ha (show g≠gO∧w.heap.size≤gO by have:=HGT.out;have:=HWW.out;omega)
   clear HI HB HK RO n0_ ho3 hb3 gbO glO gbM glM BL
   have HI:=n1_
   have HB:=n2_
   have HK:=n3_
   clear n1_ n2_ n3_
   rw [l16] at RO2
   rw [l16,m16]
   rw [m16] at RM
   clear l16 m16
   go_loopg [68] 16 (fun gg v68 w'=>∃ j:Nat,Aside0 (j≤16∧16 - j≤gg)∧v68=.int .i64 (j:Int)∧Aside0 (Kd.R (Kd.int .i64) 2 w' w.heap.size (fun k=>k≠g) (.slice (some ⟨gO,0,none⟩) 16 c2_) (outG o mo q j))∧Aside0 (Kd.R (Kd.int .i64) 2 w' w2.heap.size (fun k=>k≠gO) (.slice (some ⟨gM,0,none⟩) 16 cM) mo)∧Aside0 (IsRd w0 w' g (lvRest i l.tail.tail) false)∧Aside0 (Below w0.heap.size w0 w')∧Aside0 (KeepBut w w' g none))
   case atStart=>exact⟨0,⟨Nat.zero_le _,Nat.le_refl _⟩,rfl,RO2,RM,⟨by rw [← HSH.out];exact HI.out⟩,HB,HK⟩
   case round=>
    clear HI HB HK RO2 RM
    obtain⟨j,HJ,rfl,RO,RM,HI,HB,HK⟩:=hrel
    by_cases hj:j < 16
    ·have hjb:decide ((j:Int) < 16)=true:=decide_eq_true (by omega)
     have p0:(0≤(j:Int))=True:=eq_true (by omega)
     have q0:((j:Int) < 16)=True:=eq_true (by omega)
     have HLJ:=Ha hj
     have HWJ:=Ha (show Value.int .i64 (wrap64 ((j:Int)+1))=.int .i64 ((j+1:Nat):Int) from by rw [show wrap64 ((j:Int)+1)=((j+1:Nat):Int) by unfold wrap64;omega])
     have l16:(outG o mo q j).length=16:=by rw [outG_len _ _ _ _ (by have:=H16.out.1;omega)];exact H16.out.1
     obtain⟨ad,e0,x0⟩:=Kd.at_int (Kd.R_reads' RO.out).2.2 (j:Int) (by omega) (by omega)
     injection e0 with e0
     subst e0
     obtain⟨ad1,e1,x1⟩:=Kd.at_int (Kd.R_reads' RM.out).2.2 (j:Int) (by omega) (by have:=H16.out.2;omega)
     injection e1 with e1
     subst e1
     rw [outG_rd _ _ _ _ (by have:=H16.out.1;omega),Int.toNat_natCast,add_plain] at x0
     rw [Int.toNat_natCast,add_plain] at x1
     have f0:wr.frozen? ⟨gO,j,none⟩=false:=by
      have h_:=(Kd.R_celln 0 RO.out (j:Int) (by omega) (by omega)).2
      rwa [Int.toNat_natCast] at h_
     have fin:=Ha (fun (V:Int) (hV:outV o mo q j=V)=>(show Kd.R (Kd.int .i64) 2 (wr.setCell ⟨gO,j,none⟩ (.int .i64 V)).drew w.heap.size (fun k=>k≠g) (.slice (some ⟨gO,0,none⟩) 16 c2_) (outG o mo q (j+1))∧Kd.R (Kd.int .i64) 2 (wr.setCell ⟨gO,j,none⟩ (.int .i64 V)).drew w2.heap.size (fun k=>k≠gO) (.slice (some ⟨gM,0,none⟩) 16 cM) mo∧IsRd w0 (wr.setCell ⟨gO,j,none⟩ (.int .i64 V)).drew g (lvRest i l.tail.tail) false∧Below w0.heap.size w0 (wr.setCell ⟨gO,j,none⟩ (.int .i64 V)).drew∧KeepBut w (wr.setCell ⟨gO,j,none⟩ (.int .i64 V)).drew g none from by
      subst hV
      have h1:=(Kd.R_putg (enc:=Value.int .i64) (h1:=fun _=>rfl) RO.out (j:Int) (outV o mo q j)).1
      rw [Int.toNat_natCast,outG_set _ _ _ _ (by have:=H16.out.1;have:=HLJ.out;omega)] at h1
      exact⟨Kd.R_drew h1,Kd.R_drew (Kd.R_far (p:=⟨gO,j,none⟩) RM.out (fun _ hk=>hk) _),HI.out.keep (Below.heap_setCell _ ⟨gO,j,none⟩ _ g HGO.out.1),below_drew1 (Hd HB.out (Nat.le_trans HW0.out HGO.out.2)),keep_drew (keep_far HK.out HGO.out.2 _)⟩))
     clear hj l16 RO RM HI HB HK
     go_wp2
     go_region
     all_goals go_wp2
     all_goals
      go_roundg (16 - (j+1))
      case measure=>have:=HJ.out;have:=HLJ.out;omega
      case rel=>
       first
        | (suffices hv_ : outV o mo q j = 0 from ⟨j + 1, ⟨HLJ.out, Nat.le_refl _⟩, HWJ.out, ⟨(fin.out _ hv_).1⟩, ⟨(fin.out _ hv_).2.1⟩, ⟨(fin.out _ hv_).2.2.1⟩, ⟨(fin.out _ hv_).2.2.2.1⟩, ⟨(fin.out _ hv_).2.2.2.2⟩⟩; unfold outV mn mx; generalize wrap64 (rd o (j : Int) + wrap64 (q * rd mo (j : Int))) = z_ at *; repeat' split; all_goals omega)
        | (suffices hv_ : outV o mo q j = 255 from ⟨j + 1, ⟨HLJ.out, Nat.le_refl _⟩, HWJ.out, ⟨(fin.out _ hv_).1⟩, ⟨(fin.out _ hv_).2.1⟩, ⟨(fin.out _ hv_).2.2.1⟩, ⟨(fin.out _ hv_).2.2.2.1⟩, ⟨(fin.out _ hv_).2.2.2.2⟩⟩; unfold outV mn mx; generalize wrap64 (rd o (j : Int) + wrap64 (q * rd mo (j : Int))) = z_ at *; repeat' split; all_goals omega)
        | (suffices hv_ : outV o mo q j = wrap64 (rd o (j : Int) + wrap64 (q * rd mo (j : Int))) from ⟨j + 1, ⟨HLJ.out, Nat.le_refl _⟩, HWJ.out, ⟨(fin.out _ hv_).1⟩, ⟨(fin.out _ hv_).2.1⟩, ⟨(fin.out _ hv_).2.2.1⟩, ⟨(fin.out _ hv_).2.2.2.1⟩, ⟨(fin.out _ hv_).2.2.2.2⟩⟩; unfold outV mn mx; generalize wrap64 (rd o (j : Int) + wrap64 (q * rd mo (j : Int))) = z_ at *; repeat' split; all_goals omega)
    ·have hjb:decide ((j:Int) < 16)=false:=decide_eq_false (by omega)
     have hj16:j=16:=by have:=HJ.out;omega
     subst hj16
     go_wp2
     go_ret
     exact⟨_,rfl,RO.out,HI.out,HB.out,HK.out⟩

theorem dec_keep {W : World} {g i : Nat} {v : Value} (h : W.cell? ⟨g, i, none⟩ = some v) (o : Obj) : (W.alloc o).cell? ⟨g, i, none⟩ = some v := (World.cell?_alloc_lt W o _ (World.block_lt_of_cell? _ _ h)).trans h
theorem dec_small (pw cx cy y1 y2 y3 y4 y5 : Int) (h1 : 0 ≤ pw ∧ pw ≤ 16) (h2 : 0 ≤ cx ∧ cx ≤ 100) (h3 : 0 ≤ cy ∧ cy ≤ 100) (h4 : 0 ≤ y1 ∧ y1 ≤ 4) (e2 : cy + y1 = y2) (e3 : y2 * pw = y3) (e4 : y3 + cx = y4) (h5 : 0 ≤ y5 ∧ y5 ≤ 4) : wrap64 y1 = y1 ∧ wrap64 y2 = y2 ∧ wrap64 y3 = y3 ∧ wrap64 y4 = y4 ∧ wrap64 (y4 + y5) = y4 + y5 := by
 have g1:0≤y2*pw:=Int.mul_nonneg (by omega) h1.1
 have g2:y2*pw≤104*16:=Int.mul_le_mul (by omega) h1.2 h1.1 (by omega)
 rw [e3] at g1 g2
 unfold wrap64
 refine⟨?_,?_,?_,?_,?_⟩ <;> omega
theorem dec_q (i : Nat) (h : i < 16) : 0 ≤ (i : Int) / 4 ∧ (i : Int) / 4 ≤ 4 := by omega
theorem dec_r (i : Nat) (h : i < 16) : 0 ≤ (i : Int) % 4 ∧ (i : Int) % 4 ≤ 4 := by omega
theorem dec_wrap (i : Nat) (h : i < 1000) : Value.int .i64 (wrap64 ((i : Int) + 1)) = .int .i64 ((i + 1 : Nat) : Int) := by rw [show wrap64 ((i : Int) + 1) = ((i + 1 : Nat) : Int) by unfold wrap64; omega]
theorem dec_nil (w : World) (a : Option Addr) (n c : Nat) : (binOp .eql 22 (.slice a n c) (.slice none 0 0)).run Try.prog w = .ok (.bool a.isNone) w := by
 have h:∀ d:Nat,(Op.equalIn (d+1) 22 (.slice a n c) (.slice none 0 0)).run Try.prog w=.ok a.isNone w:=fun d=>by
  cases a <;> simp [Op.equalIn,run_underlying Try.underlying22]
 simp only [binOp]
 simp [Op.equal,Op.maxDepth,h 9999]
theorem dec_lt (w : World) (o1 o2 : Obj) : w.heap.size < ((w.alloc o1).alloc o2).heap.size := by
 have h1:((w.alloc o1).alloc o2).heap.size=(w.alloc o1).heap.size+1:=Array.size_push _
 have h2:(w.alloc o1).heap.size=w.heap.size+1:=Array.size_push _
 omega
theorem dec_lt1 (w : World) (o1 o2 : Obj) : w.heap.size + 1 < ((w.alloc o1).alloc o2).heap.size := by
 have h1:((w.alloc o1).alloc o2).heap.size=(w.alloc o1).heap.size+1:=Array.size_push _
 have h2:(w.alloc o1).heap.size=w.heap.size+1:=Array.size_push _
 omega
theorem set2_size (W : World) (g i j : Nat) (u v : Value) : ((W.setCell ⟨g, i, none⟩ u).setCell ⟨g, j, none⟩ v).heap.size = W.heap.size := by simp [World.setCell]
def DecQ (w : World) (r1 r2 : Int) (r3 : List Int) (r4 : Bool) (e : Ending) (w' : World) : Prop := ∃ v2_ : Value, e = .returned (.tuple #[.agg #[.int .i64 r1, .int .i64 r2, v2_], .bool r4]) ∧ Kd.R (Kd.int .i64) 2 w' w.heap.size (fun _ => True) v2_ r3 ∧ Below w.heap.size w w'
theorem dec_two (w : World) (o1 o2 : Obj) : ((w.alloc o1).alloc o2).heap[w.heap.size]? = some o1 ∧ ((w.alloc o1).alloc o2).heap[w.heap.size + 1]? = some o2 := by
 refine⟨blk_alloc (Go.Deep.blk_alloc_new w _) _,?_⟩
 have h:=Go.Deep.blk_alloc_new (w.alloc o1) o2
 have e:(w.alloc o1).heap.size=w.heap.size+1:=Array.size_push _
 rwa [e] at h
def idxP (pw x y : Int) (i : Nat) : Int := (y + (i : Int) / 4) * pw + x + (i : Int) % 4
def putG (pw x y : Int) (xs : List Int) : Nat → List Int → List Int
 | 0, o => o
 | i + 1, o => (putG pw x y xs i o).set (idxP pw x y i).toNat (rd xs (i : Int))
theorem putG_len (pw x y : Int) (xs : List Int) (i : Nat) (o : List Int) : (putG pw x y xs i o).length = o.length := by
 induction i with
 | zero => rfl
 | succ i ih => simp [putG, ih]
/-- Each pixel of a block lies in the picture. -/
def idxOk (pw x y : Int) (n : Nat) : Prop := (0 ≤ pw ∧ pw ≤ 16) ∧ (0 ≤ x ∧ x ≤ 100) ∧ (0 ≤ y ∧ y ≤ 100) ∧ ∀ i, i < 16 → 0 ≤ idxP pw x y i ∧ idxP pw x y i < (n : Int)
instance (pw x y : Int) (n : Nat) : Decidable (idxOk pw x y n) := by unfold idxOk; infer_instance
def decG (kr : Nat) (pw ph : Int) (px : List Int) (q : Int) : Nat → Int → List Int → List Int → Option (Option (List Int × List Int))
 | 0, _, L, out => some (some (L, out))
 | d + 1, k, L, out =>
  if badB L false = true then some none else
  if nextV L.tail < 0 then none else
  if lvShort (nextV L.tail).toNat L.tail.tail (twoS L false) = true then some none else
  (impl_Picture_at.f kr pw ph px k (dxV L) (dyV L)).bind fun o => (impl_turn.f (lvList L.tail.tail (nextV L.tail).toNat)).bind fun mo => (impl_Picture_corner.f pw ph px k).bind fun c =>
   if o.length = 16 ∧ mo.length = 16 ∧ idxOk pw c.1 c.2 out.length then decG kr pw ph px q d (k + 1) (lvRest (nextV L.tail).toNat L.tail.tail) (putG pw c.1 c.2 (outG o mo q 16) 16 out) else none
def decOut (pw ph : Int) : Option (List Int × List Int) → Int × Int × List Int × Bool
 | none => (0, 0, [], false)
 | some (L, out) => if L.isEmpty = true then (pw, ph, out, true) else (0, 0, [], false)
/-- What stands in memory ahead of each block. -/
structure DecI (w W : World) (pw ph : Int) (A0 : Option Addr) (c0 : Nat) (px : List Int) (gR gP : Nat) (AX : Option Addr) (n cX : Nat) (L out : List Int) : Prop where
 rd_ : IsRd w W gR L false
 bp : W.heap[gP]? = some (.cells #[.int .i64 pw, .int .i64 ph, .slice AX n cX] 27 (0, 0))
 b3 : W.heap[w.heap.size]? = some (.cells #[.int .i64 pw, .int .i64 ph, .slice A0 px.length c0] 27 (0, 0))
 b6 : W.heap[w.heap.size + 1]? = some (.cells #[.int .i64 0, .int .i64 0, .slice none 0 0] 27 (0, 0))
 hx : Kd.R (Kd.int .i64) 2 W w.heap.size (fun k => k ≠ gR) (.slice AX n cX) out
 hb : Below w.heap.size w W
theorem DecI.below {w W W' : World} {pw ph : Int} {A0 : Option Addr} {c0 : Nat} {px : List Int} {gR gP : Nat} {AX : Option Addr} {n cX : Nat} {L out : List Int} (h : DecI w W pw ph A0 c0 px gR gP AX n cX L out) (hb : Below W.heap.size W W') : DecI w W' pw ph A0 c0 px gR gP AX n cX L out :=
 ⟨h.rd_.below hb,Hc h.bp hb,Hc h.b3 hb,Hc h.b6 hb,Kd.R_below h.hx hb,Hh h.hb hb⟩
theorem DecI.ne {w W : World} {pw ph : Int} {A0 : Option Addr} {c0 : Nat} {px : List Int} {gR gP : Nat} {AX : Option Addr} {n cX : Nat} {L out : List Int} (h : DecI w W pw ph A0 c0 px gR gP AX n cX L out) : gP ≠ gR ∧ w.heap.size ≠ gR ∧ w.heap.size + 1 ≠ gR := by
 obtain⟨_,_,_,hh,_⟩:=h.rd_
 exact⟨blk_ne h.bp hh (by decide),blk_ne h.b3 hh (by decide),blk_ne h.b6 hh (by decide)⟩
/-- Behind a call on the reader. -/
theorem DecI.keep {w W W' : World} {pw ph : Int} {A0 : Option Addr} {c0 : Nat} {px : List Int} {gR gP : Nat} {AX : Option Addr} {n cX : Nat} {L out L' : List Int} (h : DecI w W pw ph A0 c0 px gR gP AX n cX L out) (hI : IsRd w W' gR L' false) (hB : Below w.heap.size w W') (hK : KeepBut W W' gR none) : DecI w W' pw ph A0 c0 px gR gP AX n cX L' out :=
 ⟨hI,hK.blk h.bp h.ne.1 (by simp),hK.blk h.b3 h.ne.2.1 (by simp),hK.blk h.b6 h.ne.2.2 (by simp),Kd.R_keep h.hx hK (fun _ hk=>hk),hB⟩
def DecR (w : World) (pw ph : Int) (res : Option (List Int × List Int)) (e : Ending) (w' : World) : Prop := DecQ w (decOut pw ph res).1 (decOut pw ph res).2.1 (decOut pw ph res).2.2.1 (decOut pw ph res).2.2.2 e w'
set_option maxHeartbeats 4000000 in
set_option maxRecDepth 100000 in
theorem dec_ok (pw ph : Int) (A0 : Option Addr) (c0 : Nat) (px : List Int) (A1 : Option Addr) (c1 : Nat) (b : List Int) (q : Int) (w : World) (hr0 : Kd.C (Kd.int .i64) w A0 px.length px) (hc0 : px.length ≤ c0) (hr1 : Kd.C (Kd.int .u8) w A1 b.length b) (hc1 : b.length ≤ c1) (n : Nat) (kr nb : Nat) (res : Option (List Int × List Int)) (hok : impl_PictureOk.f pw ph px = some true) (hq : 1 ≤ q ∧ q ≤ 64) (hn : pw * ph = (n : Int)) (hn2 : n ≤ 256) (hnb : impl_Picture_blocks.f pw ph px = some (nb : Int)) (hnb2 : nb ≤ 16) (hd : decG kr pw ph px q nb 0 b (List.replicate n 0) = some res) :
  Calls Try.prog 36 #[.agg #[.int .i64 pw,.int .i64 ph,.slice A0 px.length c0],.slice A1 b.length c1,.int .i64 q] w (DecR w pw ph res):=by
 have huP:=Try.underlying27
 have huR:=Try.underlying73
 have HR0:=Ha hr0
 have HC0:=Ha hc0
 have HR1:=Ha hr1
 have HC1:=Ha hc1
 have HOK:=Ha hok
 have HQ:=Ha (show impl_in.f q 1 64=some true by unfold impl_in.f;rw [if_pos hq.1,decide_eq_true hq.2])
 have hw0:IntKind.i64.wrap (pw*ph)=(n:Int):=by rw [i64_w,hn];unfold wrap64;omega
 have hmk:=print_make (P:=Try.prog) 22 2 .i64 8 Try.underlying22 turn_info (by decide) n (by omega)
 have HN:=Ha (And.intro hn hn2)
 have B12:=Ha (dec_two w (.cells #[.int .i64 pw,.int .i64 ph,.slice A0 px.length c0] 27 (0,0)) (.cells #[.int .i64 0,.int .i64 0,.slice none 0 0] 27 (0,0)))
 have HB:=Ha (below_alloc (below_alloc (Below.refl w.heap.size w) (.cells #[.int .i64 pw,.int .i64 ph,.slice A0 px.length c0] 27 (0,0))) (.cells #[.int .i64 0,.int .i64 0,.slice none 0 0] 27 (0,0)))
 have HNB:=Ha hnb
 have HNB2:=Ha hnb2
 have HD:=Ha hd
 clear hr0 hc0 hr1 hc1 hok hq hn hn2 hnb hnb2 hd
 go_enter Try.func36,Try.ntmps36
 go_wp2_with (first|(go_at_call 17;have hA_:=impl_PictureOk.calls pw ph A0 c0 px true _ (Kd.C_below HR0.out HB.out) HC0.out HOK.out;(with_reducible refine hA_.mono ?_);clear hA_;rintro e w2 ⟨rfl,hb2⟩;have n0_:=Ha (Hc B12.out.1 hb2);have n1_:=Ha (Hc B12.out.2 hb2);have n2_:=Ha (Hh HB.out hb2);have HS:=Ha hb2.size;clear HB B12 hb2;have B3:=n0_;have B6:=n1_;have HB:=n2_;clear n0_ n1_ n2_)|(go_at_call 49;refine(impl_in.calls q 1 64 true _ HQ.out).mono ?_;rintro e w' ⟨rfl,⟨nd,rfl⟩⟩))
 have n0_:=Ha (show(w2.drewN nd).drew.heap[w.heap.size]? = _ from blk_drew (blk_drewN B3.out nd))
 have n1_:=Ha (show(w2.drewN nd).drew.heap[w.heap.size+1]? = _ from blk_drew (blk_drewN B6.out nd))
 have n2_:=Ha (show Below w.heap.size w (w2.drewN nd).drew from below_drew1 (pw_below_drewN HB.out nd))
 have z0:=Ha (show w.heap.size < w2.heap.size from Nat.lt_of_lt_of_le (dec_lt w _ _) HS.out)
 have z1:=Ha (show w.heap.size+1 < w2.heap.size from Nat.lt_of_lt_of_le (dec_lt1 w _ _) HS.out)
 clear B3 B6 HB HS hmk
 have B3:=n0_
 have B6:=n1_
 have HB:=n2_
 clear n0_ n1_ n2_
 have HS2:=Ha (show w2.heap.size≤(w2.drewN nd).drew.heap.size from Nat.le_refl _)
 refine start_ (n:=17) (S:=fun w'=>w'.cell? ⟨w.heap.size,0,none⟩=some (.int .i64 pw)∧w'.cell? ⟨w.heap.size,1,none⟩=some (.int .i64 ph)) (ds:=[]) #[false,false,false,false,false,false,false,false,false,false,false,false,false,false,false,false,false] (by kernel_rfl) rfl rfl ⟨(Hb B3.out 0).trans rfl,(Hb B3.out 1).trans rfl⟩ (fun hHeld=>?_)
 refine pure_ (i:=0) (N:=some 25) (v:=?_) (a':=?_) #[true,false,false,false,false,false,false,false,false,false,false,false,false,false,false,false,false] rfl rfl (by kernel_rfl) (fun _ _ _ h=>h) (Or.inl ⟨by rfl,?_⟩) ?_ ?_
 rotate_left
 ·intro w'
  go_simp
  with_reducible rfl
 rotate_left
 ·simp only [Act.put,List.setIfInBounds_toArray,List.set_cons_zero,List.set_cons_succ,i64_w,i32_w]
  rfl
 refine pure_ (i:=2) (N:=some 27) (v:=?_) (a':=?_) #[true,false,true,false,false,false,false,false,false,false,false,false,false,false,false,false,false] rfl rfl (by kernel_rfl) (fun _ _ _ h=>h) (Or.inl ⟨by rfl,?_⟩) ?_ ?_
 rotate_left
 ·intro w'
  go_simp
  with_reducible rfl
 rotate_left
 ·simp only [Act.put,List.setIfInBounds_toArray,List.set_cons_zero,List.set_cons_succ,i64_w,i32_w]
  rfl
 refine pure_ (i:=4) (N:=some 29) (v:=?_) (a':=?_) #[true,false,true,false,true,false,false,false,false,false,false,false,false,false,false,false,false] rfl rfl (by kernel_rfl) (fun _ _ _ h=>h) (Or.inl ⟨by rfl,?_⟩) ?_ ?_
 rotate_left
 ·intro w'
  go_simp
  with_reducible rfl
 rotate_left
 ·simp only [Act.put,List.setIfInBounds_toArray,List.set_cons_zero,List.set_cons_succ,i64_w,i32_w]
  rfl
 refine pure_ (i:=6) (N:=some 31) (v:=?_) (a':=?_) #[true,false,true,false,true,false,true,false,false,false,false,false,false,false,false,false,false] rfl rfl (by kernel_rfl) (fun _ _ _ h=>h) (Or.inl ⟨by rfl,?_⟩) ?_ ?_
 rotate_left
 ·intro w'
  go_simp
  with_reducible rfl
 rotate_left
 ·simp only [Act.put,List.setIfInBounds_toArray,List.set_cons_zero,List.set_cons_succ,i64_w,i32_w]
  rfl
 refine pure_ (i:=8) (N:=some 33) (v:=?_) (a':=?_) #[true,false,true,false,true,false,true,false,true,false,false,false,false,false,false,false,false] rfl rfl (by kernel_rfl) (fun _ _ _ h=>h) (Or.inl ⟨by rfl,?_⟩) ?_ ?_
 rotate_left
 ·intro w'
  go_simp
  with_reducible rfl
 rotate_left
 ·simp only [Act.put,List.setIfInBounds_toArray,List.set_cons_zero,List.set_cons_succ,i64_w,i32_w]
  rfl
 refine pure_ (i:=1) (N:=some 26) (v:=?_) (a':=?_) #[true,true,true,false,true,false,true,false,true,false,false,false,false,false,false,false,false] rfl rfl (by kernel_rfl) (fun _ _ _ h=>h) (Or.inl ⟨by rfl,?_⟩) ?_ ?_
 rotate_left
 ·intro w'
  go_simp
  with_reducible rfl
 rotate_left
 ·simp only [Act.put,List.setIfInBounds_toArray,List.set_cons_zero,List.set_cons_succ,i64_w,i32_w]
  rfl
 refine take_ (i:=3) (N:=some 28) (v:=?_) (a':=?_) #[true,true,true,true,true,false,true,false,true,false,false,false,false,false,false,false,false] rfl rfl (by kernel_rfl) (fun _ _ _ h=>h) (Or.inl ⟨by rfl,?_⟩) hHeld ?_ ?_
 rotate_left
 ·rintro w' ⟨s0,s1⟩
  go_simp
  with_reducible rfl
 rotate_left
 ·simp only [Act.put,List.setIfInBounds_toArray,List.set_cons_zero,List.set_cons_succ,i64_w,i32_w]
  rfl
 refine take_ (i:=5) (N:=some 30) (v:=?_) (a':=?_) #[true,true,true,true,true,true,true,false,true,false,false,false,false,false,false,false,false] rfl rfl (by kernel_rfl) (fun _ _ _ h=>h) (Or.inl ⟨by rfl,?_⟩) hHeld ?_ ?_
 rotate_left
 ·rintro w' ⟨s0,s1⟩
  go_simp
  with_reducible rfl
 rotate_left
 ·simp only [Act.put,List.setIfInBounds_toArray,List.set_cons_zero,List.set_cons_succ,i64_w,i32_w]
  rfl
 refine take_ (i:=7) (N:=some 32) (v:=?_) (a':=?_) #[true,true,true,true,true,true,true,true,true,false,false,false,false,false,false,false,false] rfl rfl (by kernel_rfl) (fun _ _ _ h=>h) (Or.inl ⟨by rfl,?_⟩) hHeld ?_ ?_
 rotate_left
 ·rintro w' ⟨s0,s1⟩
  go_simp
  with_reducible rfl
 rotate_left
 ·simp only [Act.put,List.setIfInBounds_toArray,List.set_cons_zero,List.set_cons_succ,i64_w,i32_w]
  rfl
 refine take_ (i:=9) (N:=some 34) (v:=?_) (a':=?_) #[true,true,true,true,true,true,true,true,true,true,false,false,false,false,false,false,false] rfl rfl (by kernel_rfl) (fun _ _ _ h=>h) (Or.inl ⟨by rfl,?_⟩) hHeld ?_ ?_
 rotate_left
 ·rintro w' ⟨s0,s1⟩
  go_simp
  with_reducible rfl
 rotate_left
 ·simp only [Act.put,List.setIfInBounds_toArray,List.set_cons_zero,List.set_cons_succ,i64_w,i32_w]
  rfl
 refine pure_ (i:=10) (N:=some 35) (v:=?_) (a':=?_) #[true,true,true,true,true,true,true,true,true,true,true,false,false,false,false,false,false] rfl rfl (by kernel_rfl) (fun _ _ _ h=>h) (Or.inl ⟨by rfl,?_⟩) ?_ ?_
 rotate_left
 ·intro w'
  go_simp
  with_reducible rfl
 rotate_left
 ·simp only [Act.put,List.setIfInBounds_toArray,List.set_cons_zero,List.set_cons_succ,i64_w,i32_w]
  rfl
 refine join_ (σ:=Value × Nat × Nat) 1 #[true,true,true,true,true,true,true,true,true,true,true,true,true,true,true,true,false] (fun s_=>[(36,s_.1),(37,.agg #[.int .i64 pw,.int .i64 ph,s_.1]),(8,.pointer (some ⟨s_.2.1,0,none⟩)),(9,.pointer (some ⟨s_.2.2,0,none⟩))]) (fun s_ w'=>(w'.cell? ⟨w.heap.size,0,none⟩=some (.int .i64 pw)∧w'.cell? ⟨w.heap.size,1,none⟩=some (.int .i64 ph))∧Kd.R (Kd.int .i64) 2 w' w.heap.size (fun _=>True) s_.1 (List.replicate n 0)∧w'.heap[s_.2.1]? = some (.cells #[.slice A1 b.length c1,.bool false] 73 (0,0))∧w'.heap[s_.2.2]? = some (.cells #[.int .i64 0,.int .i64 0,.slice none 0 0] 27 (0,0))∧w'.heap[w.heap.size]? = some (.cells #[.int .i64 pw,.int .i64 ph,.slice A0 px.length c0] 27 (0,0))∧w'.heap[w.heap.size+1]? = some (.cells #[.int .i64 0,.int .i64 0,.slice none 0 0] 27 (0,0))∧w2.heap.size≤s_.2.1∧w2.heap.size≤s_.2.2∧Below w.heap.size w w') ?_ ?_
 rotate_left
 ·intro hCont
  refine three_ (i:=11) (j:=13) (k:=14) (Ni:=some 36) (Nj:=some 8) (Nk:=some 9) #[true,true,true,true,true,true,true,true,true,true,true,true,false,false,false,false,false] #[true,true,true,true,true,true,true,true,true,true,true,false,false,true,false,false,false] #[true,true,true,true,true,true,true,true,true,true,true,false,false,false,true,false,false] rfl rfl rfl rfl rfl rfl (by kernel_rfl) (by decide) (by decide) (by decide) (fun K hK=>?_) (fun K hK=>?_) (fun K hK=>?_)
  ·skip
   refine Kd.R_make_step (Kd.int .i64) _ 2 (by rfl) (N:=36) rfl 22 _ _ rfl (n:Int) rfl rfl Try.underlying22 (.int .i64 0) 8 turn_info rfl (by decide) (by omega) 0 (ok:=fun _=>True) (okp:=fun _=>True) rfl (fun _ hk=>hk) trivial (Int.natCast_nonneg n) (by have:=HN.out.2;rw [Int.toNat_natCast];omega) (Below.refl _ _) (Nat.le_refl _) ?_
   intro vX W_ ho_ hb hg_ hnew_
   clear hg_ hnew_
   rw [Int.toNat_natCast] at ho_
   have HX:=Ha (Kd.R_lower ho_ HB.out.size)
   have n9_:=Ha (Nat.le_trans HS2.out hb.size)
   have n0_:=Ha (Hc B3.out hb)
   have n1_:=Ha (Hc B6.out hb)
   have n2_:=Ha (Hh HB.out hb)
   clear B3 B6 HB
   have B3:=n0_
   have B6:=n1_
   have HB:=n2_
   clear n0_ n1_ n2_
   clear HS2 hb ho_
   have HS2:=n9_
   clear n9_
   obtain⟨AX,cX,eX⟩:=Kd.R_slice HX.out
   rw [List.length_replicate] at eX
   subst eX
   refine hK.out _ _ ⟨(Hb B3.out 0).trans rfl,(Hb B3.out 1).trans rfl⟩ (fun hHeld=>?_)
   clear hK K
   refine norm_ (a':=?_) ?_ ?_
   rotate_left
   ·show Act.put _ (some 36) _=_
    simp only [Act.put,List.setIfInBounds_toArray,List.set_cons_zero,List.set_cons_succ,i64_w,i32_w]
    rfl
   refine pure_ (i:=12) (N:=some 37) (v:=?_) (a':=?_) #[true,true,true,true,true,true,true,true,true,true,true,true,true,false,false,false,false] rfl rfl (by kernel_rfl) (fun _ _ _ h=>h) (Or.inl ⟨by rfl,?_⟩) ?_ ?_
   rotate_left
   ·intro w'
    go_simp
    with_reducible rfl
   rotate_left
   ·simp only [Act.put,List.setIfInBounds_toArray,List.set_cons_zero,List.set_cons_succ,i64_w,i32_w]
    rfl
   refine two_ (i:=13) (j:=14) (Ni:=some 8) (Nj:=some 9) #[true,true,true,true,true,true,true,true,true,true,true,true,true,true,false,false,false] #[true,true,true,true,true,true,true,true,true,true,true,true,true,false,true,false,false] rfl rfl rfl rfl (by kernel_rfl) (by decide) (by decide) (fun K hK=>?_) (fun K hK=>?_)
   ·skip
    refine box_step ?hg (N:=8) ?hd (cs:=#[.slice none 0 0,.bool false]) (t:=73) ?hr ?_
    case hd=>rfl
    case hg=>rfl
    case hr=>first|(go_simp;done)|(go_simp;rfl)
    intro gR hg W_ hbox hb
    have BR:=Ha hbox
    have GR:=Ha (show w2.heap.size≤gR from by rw [hg];exact HS2.out)
    have n9_:=Ha (Nat.le_trans HS2.out hb.size)
    have n0_:=Ha (Hc B3.out hb)
    have n1_:=Ha (Hc B6.out hb)
    have n2_:=Ha (Hh HB.out hb)
    clear B3 B6 HB
    have B3:=n0_
    have B6:=n1_
    have HB:=n2_
    clear n0_ n1_ n2_
    have n0_:=Ha (Kd.R_below HX.out hb)
    clear HX
    have HX:=n0_
    clear n0_
    clear HS2 hb hbox hg
    have HS2:=n9_
    clear n9_
    refine hK.out _ _ ⟨(Hb B3.out 0).trans rfl,(Hb B3.out 1).trans rfl⟩ (fun hHeld=>?_)
    clear hK K
    refine norm_ (a':=?_) ?_ ?_
    rotate_left
    ·show Act.put _ (some 8) _=_
     simp only [Act.put,List.setIfInBounds_toArray,List.set_cons_zero,List.set_cons_succ,i64_w,i32_w]
     rfl
    refine one_ (i:=14) (N:=some 9) #[true,true,true,true,true,true,true,true,true,true,true,true,true,true,true,false,false] rfl rfl (by kernel_rfl) (by decide) (fun K hK=>?_)
    refine box_step ?hg (N:=9) ?hd (cs:=#[.int .i64 0,.int .i64 0,.slice none 0 0]) (t:=27) ?hr ?_
    case hd=>rfl
    case hg=>rfl
    case hr=>first|(go_simp;done)|(go_simp;rfl)
    intro gP hg W_ hbox hb
    have BP:=Ha hbox
    have GP:=Ha (show w2.heap.size≤gP from by rw [hg];exact HS2.out)
    have n9_:=Ha (Nat.le_trans HS2.out hb.size)
    have n0_:=Ha (Hc B3.out hb)
    have n1_:=Ha (Hc B6.out hb)
    have n2_:=Ha (Hh HB.out hb)
    clear B3 B6 HB
    have B3:=n0_
    have B6:=n1_
    have HB:=n2_
    clear n0_ n1_ n2_
    have n0_:=Ha (Kd.R_below HX.out hb)
    clear HX
    have HX:=n0_
    clear n0_
    have n0_:=Ha (Hc BR.out hb)
    clear BR
    have BR:=n0_
    clear n0_
    clear HS2 hb hbox hg
    have HS2:=n9_
    clear n9_
    refine hK.out _ _ ⟨(Hb B3.out 0).trans rfl,(Hb B3.out 1).trans rfl⟩ (fun hHeld=>?_)
    clear hK K
    refine norm_ (a':=?_) ?_ ?_
    rotate_left
    ·show Act.put _ (some 9) _=_
     simp only [Act.put,List.setIfInBounds_toArray,List.set_cons_zero,List.set_cons_succ,i64_w,i32_w]
     rfl
    refine one_ (i:=15) (N:=none) #[true,true,true,true,true,true,true,true,true,true,true,true,true,true,true,true,false] rfl rfl (by kernel_rfl) (by decide) (fun K hK=>?_)
    have r0:=(Hb BR.out 0).trans rfl
    have r1:=(Hb BR.out 1).trans rfl
    have f0:=Hf BR.out 0
    have f1:=Hf BR.out 1
    refine skip_ (w1:=?_) (by rfl) rfl ?_ ?_
    rotate_left
    ·go_simp
     rfl
    clear r0 r1 f0 f1
    have hgr:w2.heap.size≤gR:=GR.out
    have n0_:=Ha (He (p:=⟨gR,1,none⟩) (He (p:=⟨gR,0,none⟩) B3.out (Nat.ne_of_lt (Nat.lt_of_lt_of_le z0.out hgr)) (.slice A1 b.length c1)) (Nat.ne_of_lt (Nat.lt_of_lt_of_le z0.out hgr)) (.bool false))
    have n1_:=Ha (He (p:=⟨gR,1,none⟩) (He (p:=⟨gR,0,none⟩) B6.out (Nat.ne_of_lt (Nat.lt_of_lt_of_le z1.out hgr)) (.slice A1 b.length c1)) (Nat.ne_of_lt (Nat.lt_of_lt_of_le z1.out hgr)) (.bool false))
    have n2_:=Ha (Hd (j:=1) (v:=.bool false) (Hd (j:=0) (v:=.slice A1 b.length c1) HB.out (Nat.le_trans (Nat.le_of_lt z0.out) hgr)) (Nat.le_trans (Nat.le_of_lt z0.out) hgr))
    have n3_:=Ha (He (p:=⟨gR,1,none⟩) (He (p:=⟨gR,0,none⟩) BP.out (blk_ne BP.out BR.out (by decide)) (.slice A1 b.length c1)) (blk_ne BP.out BR.out (by decide)) (.bool false))
    have n4_:=Ha (Hg (Hg BR.out 0 (.slice A1 b.length c1) rfl) 1 (.bool false) rfl)
    have n5_:=Ha (Kd.R_set (Kd.R_set HX.out BR.out (by decide) 0 (.slice A1 b.length c1)) (Hg BR.out 0 (.slice A1 b.length c1) rfl) (by decide) 1 (.bool false))
    clear HX
    have HX:=n5_
    clear n5_
    skip
    clear B3 B6 HB BP BR hgr
    have B3:=n0_
    have B6:=n1_
    have HB:=n2_
    have BP:=n3_
    have BR:=n4_
    clear n0_ n1_ n2_ n3_ n4_
    have n9_:Aside0 (w2.heap.size≤_):=⟨Nat.le_trans HS2.out (Nat.le_of_eq (set2_size _ gR 0 1 (.slice A1 b.length c1) (.bool false)).symm)⟩
    clear HS2
    have HS2:=n9_
    clear n9_
    refine hK.out _ _ ⟨(Hb B3.out 0).trans rfl,(Hb B3.out 1).trans rfl⟩ (fun hHeld=>?_)
    clear hK K
    exact norm_ (by simp only [putAll,Act.put,List.setIfInBounds_toArray,List.set_cons_zero,List.set_cons_succ]) (hCont (.slice AX n cX,gR,gP) _ ⟨hHeld,HX.out,BR.out,BP.out,B3.out,B6.out,GR.out,GP.out,HB.out⟩)
   ·skip
    refine box_step ?hg (N:=9) ?hd (cs:=#[.int .i64 0,.int .i64 0,.slice none 0 0]) (t:=27) ?hr ?_
    case hd=>rfl
    case hg=>rfl
    case hr=>first|(go_simp;done)|(go_simp;rfl)
    intro gP hg W_ hbox hb
    have BP:=Ha hbox
    have GP:=Ha (show w2.heap.size≤gP from by rw [hg];exact HS2.out)
    have n9_:=Ha (Nat.le_trans HS2.out hb.size)
    have n0_:=Ha (Hc B3.out hb)
    have n1_:=Ha (Hc B6.out hb)
    have n2_:=Ha (Hh HB.out hb)
    clear B3 B6 HB
    have B3:=n0_
    have B6:=n1_
    have HB:=n2_
    clear n0_ n1_ n2_
    have n0_:=Ha (Kd.R_below HX.out hb)
    clear HX
    have HX:=n0_
    clear n0_
    clear HS2 hb hbox hg
    have HS2:=n9_
    clear n9_
    refine hK.out _ _ ⟨(Hb B3.out 0).trans rfl,(Hb B3.out 1).trans rfl⟩ (fun hHeld=>?_)
    clear hK K
    refine norm_ (a':=?_) ?_ ?_
    rotate_left
    ·show Act.put _ (some 9) _=_
     simp only [Act.put,List.setIfInBounds_toArray,List.set_cons_zero,List.set_cons_succ,i64_w,i32_w]
     rfl
    refine one_ (i:=13) (N:=some 8) #[true,true,true,true,true,true,true,true,true,true,true,true,true,true,true,false,false] rfl rfl (by kernel_rfl) (by decide) (fun K hK=>?_)
    refine box_step ?hg (N:=8) ?hd (cs:=#[.slice none 0 0,.bool false]) (t:=73) ?hr ?_
    case hd=>rfl
    case hg=>rfl
    case hr=>first|(go_simp;done)|(go_simp;rfl)
    intro gR hg W_ hbox hb
    have BR:=Ha hbox
    have GR:=Ha (show w2.heap.size≤gR from by rw [hg];exact HS2.out)
    have n9_:=Ha (Nat.le_trans HS2.out hb.size)
    have n0_:=Ha (Hc B3.out hb)
    have n1_:=Ha (Hc B6.out hb)
    have n2_:=Ha (Hh HB.out hb)
    clear B3 B6 HB
    have B3:=n0_
    have B6:=n1_
    have HB:=n2_
    clear n0_ n1_ n2_
    have n0_:=Ha (Kd.R_below HX.out hb)
    clear HX
    have HX:=n0_
    clear n0_
    have n0_:=Ha (Hc BP.out hb)
    clear BP
    have BP:=n0_
    clear n0_
    clear HS2 hb hbox hg
    have HS2:=n9_
    clear n9_
    refine hK.out _ _ ⟨(Hb B3.out 0).trans rfl,(Hb B3.out 1).trans rfl⟩ (fun hHeld=>?_)
    clear hK K
    refine norm_ (a':=?_) ?_ ?_
    rotate_left
    ·show Act.put _ (some 8) _=_
     simp only [Act.put,List.setIfInBounds_toArray,List.set_cons_zero,List.set_cons_succ,i64_w,i32_w]
     rfl
    refine one_ (i:=15) (N:=none) #[true,true,true,true,true,true,true,true,true,true,true,true,true,true,true,true,false] rfl rfl (by kernel_rfl) (by decide) (fun K hK=>?_)
    have r0:=(Hb BR.out 0).trans rfl
    have r1:=(Hb BR.out 1).trans rfl
    have f0:=Hf BR.out 0
    have f1:=Hf BR.out 1
    refine skip_ (w1:=?_) (by rfl) rfl ?_ ?_
    rotate_left
    ·go_simp
     rfl
    clear r0 r1 f0 f1
    have hgr:w2.heap.size≤gR:=GR.out
    have n0_:=Ha (He (p:=⟨gR,1,none⟩) (He (p:=⟨gR,0,none⟩) B3.out (Nat.ne_of_lt (Nat.lt_of_lt_of_le z0.out hgr)) (.slice A1 b.length c1)) (Nat.ne_of_lt (Nat.lt_of_lt_of_le z0.out hgr)) (.bool false))
    have n1_:=Ha (He (p:=⟨gR,1,none⟩) (He (p:=⟨gR,0,none⟩) B6.out (Nat.ne_of_lt (Nat.lt_of_lt_of_le z1.out hgr)) (.slice A1 b.length c1)) (Nat.ne_of_lt (Nat.lt_of_lt_of_le z1.out hgr)) (.bool false))
    have n2_:=Ha (Hd (j:=1) (v:=.bool false) (Hd (j:=0) (v:=.slice A1 b.length c1) HB.out (Nat.le_trans (Nat.le_of_lt z0.out) hgr)) (Nat.le_trans (Nat.le_of_lt z0.out) hgr))
    have n3_:=Ha (He (p:=⟨gR,1,none⟩) (He (p:=⟨gR,0,none⟩) BP.out (blk_ne BP.out BR.out (by decide)) (.slice A1 b.length c1)) (blk_ne BP.out BR.out (by decide)) (.bool false))
    have n4_:=Ha (Hg (Hg BR.out 0 (.slice A1 b.length c1) rfl) 1 (.bool false) rfl)
    have n5_:=Ha (Kd.R_set (Kd.R_set HX.out BR.out (by decide) 0 (.slice A1 b.length c1)) (Hg BR.out 0 (.slice A1 b.length c1) rfl) (by decide) 1 (.bool false))
    clear HX
    have HX:=n5_
    clear n5_
    skip
    clear B3 B6 HB BP BR hgr
    have B3:=n0_
    have B6:=n1_
    have HB:=n2_
    have BP:=n3_
    have BR:=n4_
    clear n0_ n1_ n2_ n3_ n4_
    have n9_:Aside0 (w2.heap.size≤_):=⟨Nat.le_trans HS2.out (Nat.le_of_eq (set2_size _ gR 0 1 (.slice A1 b.length c1) (.bool false)).symm)⟩
    clear HS2
    have HS2:=n9_
    clear n9_
    refine hK.out _ _ ⟨(Hb B3.out 0).trans rfl,(Hb B3.out 1).trans rfl⟩ (fun hHeld=>?_)
    clear hK K
    exact norm_ (by simp only [putAll,Act.put,List.setIfInBounds_toArray,List.set_cons_zero,List.set_cons_succ]) (hCont (.slice AX n cX,gR,gP) _ ⟨hHeld,HX.out,BR.out,BP.out,B3.out,B6.out,GR.out,GP.out,HB.out⟩)
  ·skip
   refine box_step ?hg (N:=8) ?hd (cs:=#[.slice none 0 0,.bool false]) (t:=73) ?hr ?_
   case hd=>rfl
   case hg=>rfl
   case hr=>first|(go_simp;done)|(go_simp;rfl)
   intro gR hg W_ hbox hb
   have BR:=Ha hbox
   have GR:=Ha (show w2.heap.size≤gR from by rw [hg];exact HS2.out)
   have n9_:=Ha (Nat.le_trans HS2.out hb.size)
   have n0_:=Ha (Hc B3.out hb)
   have n1_:=Ha (Hc B6.out hb)
   have n2_:=Ha (Hh HB.out hb)
   clear B3 B6 HB
   have B3:=n0_
   have B6:=n1_
   have HB:=n2_
   clear n0_ n1_ n2_
   clear HS2 hb hbox hg
   have HS2:=n9_
   clear n9_
   refine hK.out _ _ ⟨(Hb B3.out 0).trans rfl,(Hb B3.out 1).trans rfl⟩ (fun hHeld=>?_)
   clear hK K
   refine norm_ (a':=?_) ?_ ?_
   rotate_left
   ·show Act.put _ (some 8) _=_
    simp only [Act.put,List.setIfInBounds_toArray,List.set_cons_zero,List.set_cons_succ,i64_w,i32_w]
    rfl
   refine two_ (i:=11) (j:=14) (Ni:=some 36) (Nj:=some 9) #[true,true,true,true,true,true,true,true,true,true,true,true,false,true,false,false,false] #[true,true,true,true,true,true,true,true,true,true,true,false,false,true,true,false,false] rfl rfl rfl rfl (by kernel_rfl) (by decide) (by decide) (fun K hK=>?_) (fun K hK=>?_)
   ·skip
    refine Kd.R_make_step (Kd.int .i64) _ 2 (by rfl) (N:=36) rfl 22 _ _ rfl (n:Int) rfl rfl Try.underlying22 (.int .i64 0) 8 turn_info rfl (by decide) (by omega) 0 (ok:=fun _=>True) (okp:=fun _=>True) rfl (fun _ hk=>hk) trivial (Int.natCast_nonneg n) (by have:=HN.out.2;rw [Int.toNat_natCast];omega) (Below.refl _ _) (Nat.le_refl _) ?_
    intro vX W_ ho_ hb hg_ hnew_
    clear hg_ hnew_
    rw [Int.toNat_natCast] at ho_
    have HX:=Ha (Kd.R_lower ho_ HB.out.size)
    have n9_:=Ha (Nat.le_trans HS2.out hb.size)
    have n0_:=Ha (Hc B3.out hb)
    have n1_:=Ha (Hc B6.out hb)
    have n2_:=Ha (Hh HB.out hb)
    clear B3 B6 HB
    have B3:=n0_
    have B6:=n1_
    have HB:=n2_
    clear n0_ n1_ n2_
    have n0_:=Ha (Hc BR.out hb)
    clear BR
    have BR:=n0_
    clear n0_
    clear HS2 hb ho_
    have HS2:=n9_
    clear n9_
    obtain⟨AX,cX,eX⟩:=Kd.R_slice HX.out
    rw [List.length_replicate] at eX
    subst eX
    refine hK.out _ _ ⟨(Hb B3.out 0).trans rfl,(Hb B3.out 1).trans rfl⟩ (fun hHeld=>?_)
    clear hK K
    refine norm_ (a':=?_) ?_ ?_
    rotate_left
    ·show Act.put _ (some 36) _=_
     simp only [Act.put,List.setIfInBounds_toArray,List.set_cons_zero,List.set_cons_succ,i64_w,i32_w]
     rfl
    refine pure_ (i:=12) (N:=some 37) (v:=?_) (a':=?_) #[true,true,true,true,true,true,true,true,true,true,true,true,true,true,false,false,false] rfl rfl (by kernel_rfl) (fun _ _ _ h=>h) (Or.inl ⟨by rfl,?_⟩) ?_ ?_
    rotate_left
    ·intro w'
     go_simp
     with_reducible rfl
    rotate_left
    ·simp only [Act.put,List.setIfInBounds_toArray,List.set_cons_zero,List.set_cons_succ,i64_w,i32_w]
     rfl
    refine one_ (i:=14) (N:=some 9) #[true,true,true,true,true,true,true,true,true,true,true,true,true,true,true,false,false] rfl rfl (by kernel_rfl) (by decide) (fun K hK=>?_)
    refine box_step ?hg (N:=9) ?hd (cs:=#[.int .i64 0,.int .i64 0,.slice none 0 0]) (t:=27) ?hr ?_
    case hd=>rfl
    case hg=>rfl
    case hr=>first|(go_simp;done)|(go_simp;rfl)
    intro gP hg W_ hbox hb
    have BP:=Ha hbox
    have GP:=Ha (show w2.heap.size≤gP from by rw [hg];exact HS2.out)
    have n9_:=Ha (Nat.le_trans HS2.out hb.size)
    have n0_:=Ha (Hc B3.out hb)
    have n1_:=Ha (Hc B6.out hb)
    have n2_:=Ha (Hh HB.out hb)
    clear B3 B6 HB
    have B3:=n0_
    have B6:=n1_
    have HB:=n2_
    clear n0_ n1_ n2_
    have n0_:=Ha (Kd.R_below HX.out hb)
    clear HX
    have HX:=n0_
    clear n0_
    have n0_:=Ha (Hc BR.out hb)
    clear BR
    have BR:=n0_
    clear n0_
    clear HS2 hb hbox hg
    have HS2:=n9_
    clear n9_
    refine hK.out _ _ ⟨(Hb B3.out 0).trans rfl,(Hb B3.out 1).trans rfl⟩ (fun hHeld=>?_)
    clear hK K
    refine norm_ (a':=?_) ?_ ?_
    rotate_left
    ·show Act.put _ (some 9) _=_
     simp only [Act.put,List.setIfInBounds_toArray,List.set_cons_zero,List.set_cons_succ,i64_w,i32_w]
     rfl
    refine one_ (i:=15) (N:=none) #[true,true,true,true,true,true,true,true,true,true,true,true,true,true,true,true,false] rfl rfl (by kernel_rfl) (by decide) (fun K hK=>?_)
    have r0:=(Hb BR.out 0).trans rfl
    have r1:=(Hb BR.out 1).trans rfl
    have f0:=Hf BR.out 0
    have f1:=Hf BR.out 1
    refine skip_ (w1:=?_) (by rfl) rfl ?_ ?_
    rotate_left
    ·go_simp
     rfl
    clear r0 r1 f0 f1
    have hgr:w2.heap.size≤gR:=GR.out
    have n0_:=Ha (He (p:=⟨gR,1,none⟩) (He (p:=⟨gR,0,none⟩) B3.out (Nat.ne_of_lt (Nat.lt_of_lt_of_le z0.out hgr)) (.slice A1 b.length c1)) (Nat.ne_of_lt (Nat.lt_of_lt_of_le z0.out hgr)) (.bool false))
    have n1_:=Ha (He (p:=⟨gR,1,none⟩) (He (p:=⟨gR,0,none⟩) B6.out (Nat.ne_of_lt (Nat.lt_of_lt_of_le z1.out hgr)) (.slice A1 b.length c1)) (Nat.ne_of_lt (Nat.lt_of_lt_of_le z1.out hgr)) (.bool false))
    have n2_:=Ha (Hd (j:=1) (v:=.bool false) (Hd (j:=0) (v:=.slice A1 b.length c1) HB.out (Nat.le_trans (Nat.le_of_lt z0.out) hgr)) (Nat.le_trans (Nat.le_of_lt z0.out) hgr))
    have n3_:=Ha (He (p:=⟨gR,1,none⟩) (He (p:=⟨gR,0,none⟩) BP.out (blk_ne BP.out BR.out (by decide)) (.slice A1 b.length c1)) (blk_ne BP.out BR.out (by decide)) (.bool false))
    have n4_:=Ha (Hg (Hg BR.out 0 (.slice A1 b.length c1) rfl) 1 (.bool false) rfl)
    have n5_:=Ha (Kd.R_set (Kd.R_set HX.out BR.out (by decide) 0 (.slice A1 b.length c1)) (Hg BR.out 0 (.slice A1 b.length c1) rfl) (by decide) 1 (.bool false))
    clear HX
    have HX:=n5_
    clear n5_
    skip
    clear B3 B6 HB BP BR hgr
    have B3:=n0_
    have B6:=n1_
    have HB:=n2_
    have BP:=n3_
    have BR:=n4_
    clear n0_ n1_ n2_ n3_ n4_
    have n9_:Aside0 (w2.heap.size≤_):=⟨Nat.le_trans HS2.out (Nat.le_of_eq (set2_size _ gR 0 1 (.slice A1 b.length c1) (.bool false)).symm)⟩
    clear HS2
    have HS2:=n9_
    clear n9_
    refine hK.out _ _ ⟨(Hb B3.out 0).trans rfl,(Hb B3.out 1).trans rfl⟩ (fun hHeld=>?_)
    clear hK K
    exact norm_ (by simp only [putAll,Act.put,List.setIfInBounds_toArray,List.set_cons_zero,List.set_cons_succ]) (hCont (.slice AX n cX,gR,gP) _ ⟨hHeld,HX.out,BR.out,BP.out,B3.out,B6.out,GR.out,GP.out,HB.out⟩)
   ·skip
    refine box_step ?hg (N:=9) ?hd (cs:=#[.int .i64 0,.int .i64 0,.slice none 0 0]) (t:=27) ?hr ?_
    case hd=>rfl
    case hg=>rfl
    case hr=>first|(go_simp;done)|(go_simp;rfl)
    intro gP hg W_ hbox hb
    have BP:=Ha hbox
    have GP:=Ha (show w2.heap.size≤gP from by rw [hg];exact HS2.out)
    have n9_:=Ha (Nat.le_trans HS2.out hb.size)
    have n0_:=Ha (Hc B3.out hb)
    have n1_:=Ha (Hc B6.out hb)
    have n2_:=Ha (Hh HB.out hb)
    clear B3 B6 HB
    have B3:=n0_
    have B6:=n1_
    have HB:=n2_
    clear n0_ n1_ n2_
    have n0_:=Ha (Hc BR.out hb)
    clear BR
    have BR:=n0_
    clear n0_
    clear HS2 hb hbox hg
    have HS2:=n9_
    clear n9_
    refine hK.out _ _ ⟨(Hb B3.out 0).trans rfl,(Hb B3.out 1).trans rfl⟩ (fun hHeld=>?_)
    clear hK K
    refine norm_ (a':=?_) ?_ ?_
    rotate_left
    ·show Act.put _ (some 9) _=_
     simp only [Act.put,List.setIfInBounds_toArray,List.set_cons_zero,List.set_cons_succ,i64_w,i32_w]
     rfl
    refine two_ (i:=11) (j:=15) (Ni:=some 36) (Nj:=none) #[true,true,true,true,true,true,true,true,true,true,true,true,false,true,true,false,false] #[true,true,true,true,true,true,true,true,true,true,true,false,false,true,true,true,false] rfl rfl rfl rfl (by kernel_rfl) (by decide) (by decide) (fun K hK=>?_) (fun K hK=>?_)
    ·skip
     refine Kd.R_make_step (Kd.int .i64) _ 2 (by rfl) (N:=36) rfl 22 _ _ rfl (n:Int) rfl rfl Try.underlying22 (.int .i64 0) 8 turn_info rfl (by decide) (by omega) 0 (ok:=fun _=>True) (okp:=fun _=>True) rfl (fun _ hk=>hk) trivial (Int.natCast_nonneg n) (by have:=HN.out.2;rw [Int.toNat_natCast];omega) (Below.refl _ _) (Nat.le_refl _) ?_
     intro vX W_ ho_ hb hg_ hnew_
     clear hg_ hnew_
     rw [Int.toNat_natCast] at ho_
     have HX:=Ha (Kd.R_lower ho_ HB.out.size)
     have n9_:=Ha (Nat.le_trans HS2.out hb.size)
     have n0_:=Ha (Hc B3.out hb)
     have n1_:=Ha (Hc B6.out hb)
     have n2_:=Ha (Hh HB.out hb)
     clear B3 B6 HB
     have B3:=n0_
     have B6:=n1_
     have HB:=n2_
     clear n0_ n1_ n2_
     have n0_:=Ha (Hc BR.out hb)
     clear BR
     have BR:=n0_
     clear n0_
     have n0_:=Ha (Hc BP.out hb)
     clear BP
     have BP:=n0_
     clear n0_
     clear HS2 hb ho_
     have HS2:=n9_
     clear n9_
     obtain⟨AX,cX,eX⟩:=Kd.R_slice HX.out
     rw [List.length_replicate] at eX
     subst eX
     refine hK.out _ _ ⟨(Hb B3.out 0).trans rfl,(Hb B3.out 1).trans rfl⟩ (fun hHeld=>?_)
     clear hK K
     refine norm_ (a':=?_) ?_ ?_
     rotate_left
     ·show Act.put _ (some 36) _=_
      simp only [Act.put,List.setIfInBounds_toArray,List.set_cons_zero,List.set_cons_succ,i64_w,i32_w]
      rfl
     refine pure_ (i:=12) (N:=some 37) (v:=?_) (a':=?_) #[true,true,true,true,true,true,true,true,true,true,true,true,true,true,true,false,false] rfl rfl (by kernel_rfl) (fun _ _ _ h=>h) (Or.inl ⟨by rfl,?_⟩) ?_ ?_
     rotate_left
     ·intro w'
      go_simp
      with_reducible rfl
     rotate_left
     ·simp only [Act.put,List.setIfInBounds_toArray,List.set_cons_zero,List.set_cons_succ,i64_w,i32_w]
      rfl
     refine one_ (i:=15) (N:=none) #[true,true,true,true,true,true,true,true,true,true,true,true,true,true,true,true,false] rfl rfl (by kernel_rfl) (by decide) (fun K hK=>?_)
     have r0:=(Hb BR.out 0).trans rfl
     have r1:=(Hb BR.out 1).trans rfl
     have f0:=Hf BR.out 0
     have f1:=Hf BR.out 1
     refine skip_ (w1:=?_) (by rfl) rfl ?_ ?_
     rotate_left
     ·go_simp
      rfl
     clear r0 r1 f0 f1
     have hgr:w2.heap.size≤gR:=GR.out
     have n0_:=Ha (He (p:=⟨gR,1,none⟩) (He (p:=⟨gR,0,none⟩) B3.out (Nat.ne_of_lt (Nat.lt_of_lt_of_le z0.out hgr)) (.slice A1 b.length c1)) (Nat.ne_of_lt (Nat.lt_of_lt_of_le z0.out hgr)) (.bool false))
     have n1_:=Ha (He (p:=⟨gR,1,none⟩) (He (p:=⟨gR,0,none⟩) B6.out (Nat.ne_of_lt (Nat.lt_of_lt_of_le z1.out hgr)) (.slice A1 b.length c1)) (Nat.ne_of_lt (Nat.lt_of_lt_of_le z1.out hgr)) (.bool false))
     have n2_:=Ha (Hd (j:=1) (v:=.bool false) (Hd (j:=0) (v:=.slice A1 b.length c1) HB.out (Nat.le_trans (Nat.le_of_lt z0.out) hgr)) (Nat.le_trans (Nat.le_of_lt z0.out) hgr))
     have n3_:=Ha (He (p:=⟨gR,1,none⟩) (He (p:=⟨gR,0,none⟩) BP.out (blk_ne BP.out BR.out (by decide)) (.slice A1 b.length c1)) (blk_ne BP.out BR.out (by decide)) (.bool false))
     have n4_:=Ha (Hg (Hg BR.out 0 (.slice A1 b.length c1) rfl) 1 (.bool false) rfl)
     have n5_:=Ha (Kd.R_set (Kd.R_set HX.out BR.out (by decide) 0 (.slice A1 b.length c1)) (Hg BR.out 0 (.slice A1 b.length c1) rfl) (by decide) 1 (.bool false))
     clear HX
     have HX:=n5_
     clear n5_
     skip
     clear B3 B6 HB BP BR hgr
     have B3:=n0_
     have B6:=n1_
     have HB:=n2_
     have BP:=n3_
     have BR:=n4_
     clear n0_ n1_ n2_ n3_ n4_
     have n9_:Aside0 (w2.heap.size≤_):=⟨Nat.le_trans HS2.out (Nat.le_of_eq (set2_size _ gR 0 1 (.slice A1 b.length c1) (.bool false)).symm)⟩
     clear HS2
     have HS2:=n9_
     clear n9_
     refine hK.out _ _ ⟨(Hb B3.out 0).trans rfl,(Hb B3.out 1).trans rfl⟩ (fun hHeld=>?_)
     clear hK K
     exact norm_ (by simp only [putAll,Act.put,List.setIfInBounds_toArray,List.set_cons_zero,List.set_cons_succ]) (hCont (.slice AX n cX,gR,gP) _ ⟨hHeld,HX.out,BR.out,BP.out,B3.out,B6.out,GR.out,GP.out,HB.out⟩)
    ·skip
     have r0:=(Hb BR.out 0).trans rfl
     have r1:=(Hb BR.out 1).trans rfl
     have f0:=Hf BR.out 0
     have f1:=Hf BR.out 1
     refine skip_ (w1:=?_) (by rfl) rfl ?_ ?_
     rotate_left
     ·go_simp
      rfl
     clear r0 r1 f0 f1
     have hgr:w2.heap.size≤gR:=GR.out
     have n0_:=Ha (He (p:=⟨gR,1,none⟩) (He (p:=⟨gR,0,none⟩) B3.out (Nat.ne_of_lt (Nat.lt_of_lt_of_le z0.out hgr)) (.slice A1 b.length c1)) (Nat.ne_of_lt (Nat.lt_of_lt_of_le z0.out hgr)) (.bool false))
     have n1_:=Ha (He (p:=⟨gR,1,none⟩) (He (p:=⟨gR,0,none⟩) B6.out (Nat.ne_of_lt (Nat.lt_of_lt_of_le z1.out hgr)) (.slice A1 b.length c1)) (Nat.ne_of_lt (Nat.lt_of_lt_of_le z1.out hgr)) (.bool false))
     have n2_:=Ha (Hd (j:=1) (v:=.bool false) (Hd (j:=0) (v:=.slice A1 b.length c1) HB.out (Nat.le_trans (Nat.le_of_lt z0.out) hgr)) (Nat.le_trans (Nat.le_of_lt z0.out) hgr))
     have n3_:=Ha (He (p:=⟨gR,1,none⟩) (He (p:=⟨gR,0,none⟩) BP.out (blk_ne BP.out BR.out (by decide)) (.slice A1 b.length c1)) (blk_ne BP.out BR.out (by decide)) (.bool false))
     have n4_:=Ha (Hg (Hg BR.out 0 (.slice A1 b.length c1) rfl) 1 (.bool false) rfl)
     skip
     clear B3 B6 HB BP BR hgr
     have B3:=n0_
     have B6:=n1_
     have HB:=n2_
     have BP:=n3_
     have BR:=n4_
     clear n0_ n1_ n2_ n3_ n4_
     have n9_:Aside0 (w2.heap.size≤_):=⟨Nat.le_trans HS2.out (Nat.le_of_eq (set2_size _ gR 0 1 (.slice A1 b.length c1) (.bool false)).symm)⟩
     clear HS2
     have HS2:=n9_
     clear n9_
     refine hK.out _ _ ⟨(Hb B3.out 0).trans rfl,(Hb B3.out 1).trans rfl⟩ (fun hHeld=>?_)
     clear hK K
     refine one_ (i:=11) (N:=some 36) #[true,true,true,true,true,true,true,true,true,true,true,true,false,true,true,true,false] rfl rfl (by kernel_rfl) (by decide) (fun K hK=>?_)
     refine Kd.R_make_step (Kd.int .i64) _ 2 (by rfl) (N:=36) rfl 22 _ _ rfl (n:Int) rfl rfl Try.underlying22 (.int .i64 0) 8 turn_info rfl (by decide) (by omega) 0 (ok:=fun _=>True) (okp:=fun _=>True) rfl (fun _ hk=>hk) trivial (Int.natCast_nonneg n) (by have:=HN.out.2;rw [Int.toNat_natCast];omega) (Below.refl _ _) (Nat.le_refl _) ?_
     intro vX W_ ho_ hb hg_ hnew_
     clear hg_ hnew_
     rw [Int.toNat_natCast] at ho_
     have HX:=Ha (Kd.R_lower ho_ HB.out.size)
     have n9_:=Ha (Nat.le_trans HS2.out hb.size)
     have n0_:=Ha (Hc B3.out hb)
     have n1_:=Ha (Hc B6.out hb)
     have n2_:=Ha (Hh HB.out hb)
     clear B3 B6 HB
     have B3:=n0_
     have B6:=n1_
     have HB:=n2_
     clear n0_ n1_ n2_
     have n0_:=Ha (Hc BR.out hb)
     clear BR
     have BR:=n0_
     clear n0_
     have n0_:=Ha (Hc BP.out hb)
     clear BP
     have BP:=n0_
     clear n0_
     clear HS2 hb ho_
     have HS2:=n9_
     clear n9_
     obtain⟨AX,cX,eX⟩:=Kd.R_slice HX.out
     rw [List.length_replicate] at eX
     subst eX
     refine hK.out _ _ ⟨(Hb B3.out 0).trans rfl,(Hb B3.out 1).trans rfl⟩ (fun hHeld=>?_)
     clear hK K
     refine norm_ (a':=?_) ?_ ?_
     rotate_left
     ·show Act.put _ (some 36) _=_
      simp only [Act.put,List.setIfInBounds_toArray,List.set_cons_zero,List.set_cons_succ,i64_w,i32_w]
      rfl
     refine pure_ (i:=12) (N:=some 37) (v:=?_) (a':=?_) #[true,true,true,true,true,true,true,true,true,true,true,true,true,true,true,true,false] rfl rfl (by kernel_rfl) (fun _ _ _ h=>h) (Or.inl ⟨by rfl,?_⟩) ?_ ?_
     rotate_left
     ·intro w'
      go_simp
      with_reducible rfl
     rotate_left
     ·simp only [Act.put,List.setIfInBounds_toArray,List.set_cons_zero,List.set_cons_succ,i64_w,i32_w]
      rfl
     exact norm_ (by simp only [putAll,Act.put,List.setIfInBounds_toArray,List.set_cons_zero,List.set_cons_succ]) (hCont (.slice AX n cX,gR,gP) _ ⟨hHeld,HX.out,BR.out,BP.out,B3.out,B6.out,GR.out,GP.out,HB.out⟩)
  ·skip
   refine box_step ?hg (N:=9) ?hd (cs:=#[.int .i64 0,.int .i64 0,.slice none 0 0]) (t:=27) ?hr ?_
   case hd=>rfl
   case hg=>rfl
   case hr=>first|(go_simp;done)|(go_simp;rfl)
   intro gP hg W_ hbox hb
   have BP:=Ha hbox
   have GP:=Ha (show w2.heap.size≤gP from by rw [hg];exact HS2.out)
   have n9_:=Ha (Nat.le_trans HS2.out hb.size)
   have n0_:=Ha (Hc B3.out hb)
   have n1_:=Ha (Hc B6.out hb)
   have n2_:=Ha (Hh HB.out hb)
   clear B3 B6 HB
   have B3:=n0_
   have B6:=n1_
   have HB:=n2_
   clear n0_ n1_ n2_
   clear HS2 hb hbox hg
   have HS2:=n9_
   clear n9_
   refine hK.out _ _ ⟨(Hb B3.out 0).trans rfl,(Hb B3.out 1).trans rfl⟩ (fun hHeld=>?_)
   clear hK K
   refine norm_ (a':=?_) ?_ ?_
   rotate_left
   ·show Act.put _ (some 9) _=_
    simp only [Act.put,List.setIfInBounds_toArray,List.set_cons_zero,List.set_cons_succ,i64_w,i32_w]
    rfl
   refine two_ (i:=11) (j:=13) (Ni:=some 36) (Nj:=some 8) #[true,true,true,true,true,true,true,true,true,true,true,true,false,false,true,false,false] #[true,true,true,true,true,true,true,true,true,true,true,false,false,true,true,false,false] rfl rfl rfl rfl (by kernel_rfl) (by decide) (by decide) (fun K hK=>?_) (fun K hK=>?_)
   ·skip
    refine Kd.R_make_step (Kd.int .i64) _ 2 (by rfl) (N:=36) rfl 22 _ _ rfl (n:Int) rfl rfl Try.underlying22 (.int .i64 0) 8 turn_info rfl (by decide) (by omega) 0 (ok:=fun _=>True) (okp:=fun _=>True) rfl (fun _ hk=>hk) trivial (Int.natCast_nonneg n) (by have:=HN.out.2;rw [Int.toNat_natCast];omega) (Below.refl _ _) (Nat.le_refl _) ?_
    intro vX W_ ho_ hb hg_ hnew_
    clear hg_ hnew_
    rw [Int.toNat_natCast] at ho_
    have HX:=Ha (Kd.R_lower ho_ HB.out.size)
    have n9_:=Ha (Nat.le_trans HS2.out hb.size)
    have n0_:=Ha (Hc B3.out hb)
    have n1_:=Ha (Hc B6.out hb)
    have n2_:=Ha (Hh HB.out hb)
    clear B3 B6 HB
    have B3:=n0_
    have B6:=n1_
    have HB:=n2_
    clear n0_ n1_ n2_
    have n0_:=Ha (Hc BP.out hb)
    clear BP
    have BP:=n0_
    clear n0_
    clear HS2 hb ho_
    have HS2:=n9_
    clear n9_
    obtain⟨AX,cX,eX⟩:=Kd.R_slice HX.out
    rw [List.length_replicate] at eX
    subst eX
    refine hK.out _ _ ⟨(Hb B3.out 0).trans rfl,(Hb B3.out 1).trans rfl⟩ (fun hHeld=>?_)
    clear hK K
    refine norm_ (a':=?_) ?_ ?_
    rotate_left
    ·show Act.put _ (some 36) _=_
     simp only [Act.put,List.setIfInBounds_toArray,List.set_cons_zero,List.set_cons_succ,i64_w,i32_w]
     rfl
    refine pure_ (i:=12) (N:=some 37) (v:=?_) (a':=?_) #[true,true,true,true,true,true,true,true,true,true,true,true,true,false,true,false,false] rfl rfl (by kernel_rfl) (fun _ _ _ h=>h) (Or.inl ⟨by rfl,?_⟩) ?_ ?_
    rotate_left
    ·intro w'
     go_simp
     with_reducible rfl
    rotate_left
    ·simp only [Act.put,List.setIfInBounds_toArray,List.set_cons_zero,List.set_cons_succ,i64_w,i32_w]
     rfl
    refine one_ (i:=13) (N:=some 8) #[true,true,true,true,true,true,true,true,true,true,true,true,true,true,true,false,false] rfl rfl (by kernel_rfl) (by decide) (fun K hK=>?_)
    refine box_step ?hg (N:=8) ?hd (cs:=#[.slice none 0 0,.bool false]) (t:=73) ?hr ?_
    case hd=>rfl
    case hg=>rfl
    case hr=>first|(go_simp;done)|(go_simp;rfl)
    intro gR hg W_ hbox hb
    have BR:=Ha hbox
    have GR:=Ha (show w2.heap.size≤gR from by rw [hg];exact HS2.out)
    have n9_:=Ha (Nat.le_trans HS2.out hb.size)
    have n0_:=Ha (Hc B3.out hb)
    have n1_:=Ha (Hc B6.out hb)
    have n2_:=Ha (Hh HB.out hb)
    clear B3 B6 HB
    have B3:=n0_
    have B6:=n1_
    have HB:=n2_
    clear n0_ n1_ n2_
    have n0_:=Ha (Kd.R_below HX.out hb)
    clear HX
    have HX:=n0_
    clear n0_
    have n0_:=Ha (Hc BP.out hb)
    clear BP
    have BP:=n0_
    clear n0_
    clear HS2 hb hbox hg
    have HS2:=n9_
    clear n9_
    refine hK.out _ _ ⟨(Hb B3.out 0).trans rfl,(Hb B3.out 1).trans rfl⟩ (fun hHeld=>?_)
    clear hK K
    refine norm_ (a':=?_) ?_ ?_
    rotate_left
    ·show Act.put _ (some 8) _=_
     simp only [Act.put,List.setIfInBounds_toArray,List.set_cons_zero,List.set_cons_succ,i64_w,i32_w]
     rfl
    refine one_ (i:=15) (N:=none) #[true,true,true,true,true,true,true,true,true,true,true,true,true,true,true,true,false] rfl rfl (by kernel_rfl) (by decide) (fun K hK=>?_)
    have r0:=(Hb BR.out 0).trans rfl
    have r1:=(Hb BR.out 1).trans rfl
    have f0:=Hf BR.out 0
    have f1:=Hf BR.out 1
    refine skip_ (w1:=?_) (by rfl) rfl ?_ ?_
    rotate_left
    ·go_simp
     rfl
    clear r0 r1 f0 f1
    have hgr:w2.heap.size≤gR:=GR.out
    have n0_:=Ha (He (p:=⟨gR,1,none⟩) (He (p:=⟨gR,0,none⟩) B3.out (Nat.ne_of_lt (Nat.lt_of_lt_of_le z0.out hgr)) (.slice A1 b.length c1)) (Nat.ne_of_lt (Nat.lt_of_lt_of_le z0.out hgr)) (.bool false))
    have n1_:=Ha (He (p:=⟨gR,1,none⟩) (He (p:=⟨gR,0,none⟩) B6.out (Nat.ne_of_lt (Nat.lt_of_lt_of_le z1.out hgr)) (.slice A1 b.length c1)) (Nat.ne_of_lt (Nat.lt_of_lt_of_le z1.out hgr)) (.bool false))
    have n2_:=Ha (Hd (j:=1) (v:=.bool false) (Hd (j:=0) (v:=.slice A1 b.length c1) HB.out (Nat.le_trans (Nat.le_of_lt z0.out) hgr)) (Nat.le_trans (Nat.le_of_lt z0.out) hgr))
    have n3_:=Ha (He (p:=⟨gR,1,none⟩) (He (p:=⟨gR,0,none⟩) BP.out (blk_ne BP.out BR.out (by decide)) (.slice A1 b.length c1)) (blk_ne BP.out BR.out (by decide)) (.bool false))
    have n4_:=Ha (Hg (Hg BR.out 0 (.slice A1 b.length c1) rfl) 1 (.bool false) rfl)
    have n5_:=Ha (Kd.R_set (Kd.R_set HX.out BR.out (by decide) 0 (.slice A1 b.length c1)) (Hg BR.out 0 (.slice A1 b.length c1) rfl) (by decide) 1 (.bool false))
    clear HX
    have HX:=n5_
    clear n5_
    skip
    clear B3 B6 HB BP BR hgr
    have B3:=n0_
    have B6:=n1_
    have HB:=n2_
    have BP:=n3_
    have BR:=n4_
    clear n0_ n1_ n2_ n3_ n4_
    have n9_:Aside0 (w2.heap.size≤_):=⟨Nat.le_trans HS2.out (Nat.le_of_eq (set2_size _ gR 0 1 (.slice A1 b.length c1) (.bool false)).symm)⟩
    clear HS2
    have HS2:=n9_
    clear n9_
    refine hK.out _ _ ⟨(Hb B3.out 0).trans rfl,(Hb B3.out 1).trans rfl⟩ (fun hHeld=>?_)
    clear hK K
    exact norm_ (by simp only [putAll,Act.put,List.setIfInBounds_toArray,List.set_cons_zero,List.set_cons_succ]) (hCont (.slice AX n cX,gR,gP) _ ⟨hHeld,HX.out,BR.out,BP.out,B3.out,B6.out,GR.out,GP.out,HB.out⟩)
   ·skip
    refine box_step ?hg (N:=8) ?hd (cs:=#[.slice none 0 0,.bool false]) (t:=73) ?hr ?_
    case hd=>rfl
    case hg=>rfl
    case hr=>first|(go_simp;done)|(go_simp;rfl)
    intro gR hg W_ hbox hb
    have BR:=Ha hbox
    have GR:=Ha (show w2.heap.size≤gR from by rw [hg];exact HS2.out)
    have n9_:=Ha (Nat.le_trans HS2.out hb.size)
    have n0_:=Ha (Hc B3.out hb)
    have n1_:=Ha (Hc B6.out hb)
    have n2_:=Ha (Hh HB.out hb)
    clear B3 B6 HB
    have B3:=n0_
    have B6:=n1_
    have HB:=n2_
    clear n0_ n1_ n2_
    have n0_:=Ha (Hc BP.out hb)
    clear BP
    have BP:=n0_
    clear n0_
    clear HS2 hb hbox hg
    have HS2:=n9_
    clear n9_
    refine hK.out _ _ ⟨(Hb B3.out 0).trans rfl,(Hb B3.out 1).trans rfl⟩ (fun hHeld=>?_)
    clear hK K
    refine norm_ (a':=?_) ?_ ?_
    rotate_left
    ·show Act.put _ (some 8) _=_
     simp only [Act.put,List.setIfInBounds_toArray,List.set_cons_zero,List.set_cons_succ,i64_w,i32_w]
     rfl
    refine two_ (i:=11) (j:=15) (Ni:=some 36) (Nj:=none) #[true,true,true,true,true,true,true,true,true,true,true,true,false,true,true,false,false] #[true,true,true,true,true,true,true,true,true,true,true,false,false,true,true,true,false] rfl rfl rfl rfl (by kernel_rfl) (by decide) (by decide) (fun K hK=>?_) (fun K hK=>?_)
    ·skip
     refine Kd.R_make_step (Kd.int .i64) _ 2 (by rfl) (N:=36) rfl 22 _ _ rfl (n:Int) rfl rfl Try.underlying22 (.int .i64 0) 8 turn_info rfl (by decide) (by omega) 0 (ok:=fun _=>True) (okp:=fun _=>True) rfl (fun _ hk=>hk) trivial (Int.natCast_nonneg n) (by have:=HN.out.2;rw [Int.toNat_natCast];omega) (Below.refl _ _) (Nat.le_refl _) ?_
     intro vX W_ ho_ hb hg_ hnew_
     clear hg_ hnew_
     rw [Int.toNat_natCast] at ho_
     have HX:=Ha (Kd.R_lower ho_ HB.out.size)
     have n9_:=Ha (Nat.le_trans HS2.out hb.size)
     have n0_:=Ha (Hc B3.out hb)
     have n1_:=Ha (Hc B6.out hb)
     have n2_:=Ha (Hh HB.out hb)
     clear B3 B6 HB
     have B3:=n0_
     have B6:=n1_
     have HB:=n2_
     clear n0_ n1_ n2_
     have n0_:=Ha (Hc BR.out hb)
     clear BR
     have BR:=n0_
     clear n0_
     have n0_:=Ha (Hc BP.out hb)
     clear BP
     have BP:=n0_
     clear n0_
     clear HS2 hb ho_
     have HS2:=n9_
     clear n9_
     obtain⟨AX,cX,eX⟩:=Kd.R_slice HX.out
     rw [List.length_replicate] at eX
     subst eX
     refine hK.out _ _ ⟨(Hb B3.out 0).trans rfl,(Hb B3.out 1).trans rfl⟩ (fun hHeld=>?_)
     clear hK K
     refine norm_ (a':=?_) ?_ ?_
     rotate_left
     ·show Act.put _ (some 36) _=_
      simp only [Act.put,List.setIfInBounds_toArray,List.set_cons_zero,List.set_cons_succ,i64_w,i32_w]
      rfl
     refine pure_ (i:=12) (N:=some 37) (v:=?_) (a':=?_) #[true,true,true,true,true,true,true,true,true,true,true,true,true,true,true,false,false] rfl rfl (by kernel_rfl) (fun _ _ _ h=>h) (Or.inl ⟨by rfl,?_⟩) ?_ ?_
     rotate_left
     ·intro w'
      go_simp
      with_reducible rfl
     rotate_left
     ·simp only [Act.put,List.setIfInBounds_toArray,List.set_cons_zero,List.set_cons_succ,i64_w,i32_w]
      rfl
     refine one_ (i:=15) (N:=none) #[true,true,true,true,true,true,true,true,true,true,true,true,true,true,true,true,false] rfl rfl (by kernel_rfl) (by decide) (fun K hK=>?_)
     have r0:=(Hb BR.out 0).trans rfl
     have r1:=(Hb BR.out 1).trans rfl
     have f0:=Hf BR.out 0
     have f1:=Hf BR.out 1
     refine skip_ (w1:=?_) (by rfl) rfl ?_ ?_
     rotate_left
     ·go_simp
      rfl
     clear r0 r1 f0 f1
     have hgr:w2.heap.size≤gR:=GR.out
     have n0_:=Ha (He (p:=⟨gR,1,none⟩) (He (p:=⟨gR,0,none⟩) B3.out (Nat.ne_of_lt (Nat.lt_of_lt_of_le z0.out hgr)) (.slice A1 b.length c1)) (Nat.ne_of_lt (Nat.lt_of_lt_of_le z0.out hgr)) (.bool false))
     have n1_:=Ha (He (p:=⟨gR,1,none⟩) (He (p:=⟨gR,0,none⟩) B6.out (Nat.ne_of_lt (Nat.lt_of_lt_of_le z1.out hgr)) (.slice A1 b.length c1)) (Nat.ne_of_lt (Nat.lt_of_lt_of_le z1.out hgr)) (.bool false))
     have n2_:=Ha (Hd (j:=1) (v:=.bool false) (Hd (j:=0) (v:=.slice A1 b.length c1) HB.out (Nat.le_trans (Nat.le_of_lt z0.out) hgr)) (Nat.le_trans (Nat.le_of_lt z0.out) hgr))
     have n3_:=Ha (He (p:=⟨gR,1,none⟩) (He (p:=⟨gR,0,none⟩) BP.out (blk_ne BP.out BR.out (by decide)) (.slice A1 b.length c1)) (blk_ne BP.out BR.out (by decide)) (.bool false))
     have n4_:=Ha (Hg (Hg BR.out 0 (.slice A1 b.length c1) rfl) 1 (.bool false) rfl)
     have n5_:=Ha (Kd.R_set (Kd.R_set HX.out BR.out (by decide) 0 (.slice A1 b.length c1)) (Hg BR.out 0 (.slice A1 b.length c1) rfl) (by decide) 1 (.bool false))
     clear HX
     have HX:=n5_
     clear n5_
     skip
     clear B3 B6 HB BP BR hgr
     have B3:=n0_
     have B6:=n1_
     have HB:=n2_
     have BP:=n3_
     have BR:=n4_
     clear n0_ n1_ n2_ n3_ n4_
     have n9_:Aside0 (w2.heap.size≤_):=⟨Nat.le_trans HS2.out (Nat.le_of_eq (set2_size _ gR 0 1 (.slice A1 b.length c1) (.bool false)).symm)⟩
     clear HS2
     have HS2:=n9_
     clear n9_
     refine hK.out _ _ ⟨(Hb B3.out 0).trans rfl,(Hb B3.out 1).trans rfl⟩ (fun hHeld=>?_)
     clear hK K
     exact norm_ (by simp only [putAll,Act.put,List.setIfInBounds_toArray,List.set_cons_zero,List.set_cons_succ]) (hCont (.slice AX n cX,gR,gP) _ ⟨hHeld,HX.out,BR.out,BP.out,B3.out,B6.out,GR.out,GP.out,HB.out⟩)
    ·skip
     have r0:=(Hb BR.out 0).trans rfl
     have r1:=(Hb BR.out 1).trans rfl
     have f0:=Hf BR.out 0
     have f1:=Hf BR.out 1
     refine skip_ (w1:=?_) (by rfl) rfl ?_ ?_
     rotate_left
     ·go_simp
      rfl
     clear r0 r1 f0 f1
     have hgr:w2.heap.size≤gR:=GR.out
     have n0_:=Ha (He (p:=⟨gR,1,none⟩) (He (p:=⟨gR,0,none⟩) B3.out (Nat.ne_of_lt (Nat.lt_of_lt_of_le z0.out hgr)) (.slice A1 b.length c1)) (Nat.ne_of_lt (Nat.lt_of_lt_of_le z0.out hgr)) (.bool false))
     have n1_:=Ha (He (p:=⟨gR,1,none⟩) (He (p:=⟨gR,0,none⟩) B6.out (Nat.ne_of_lt (Nat.lt_of_lt_of_le z1.out hgr)) (.slice A1 b.length c1)) (Nat.ne_of_lt (Nat.lt_of_lt_of_le z1.out hgr)) (.bool false))
     have n2_:=Ha (Hd (j:=1) (v:=.bool false) (Hd (j:=0) (v:=.slice A1 b.length c1) HB.out (Nat.le_trans (Nat.le_of_lt z0.out) hgr)) (Nat.le_trans (Nat.le_of_lt z0.out) hgr))
     have n3_:=Ha (He (p:=⟨gR,1,none⟩) (He (p:=⟨gR,0,none⟩) BP.out (blk_ne BP.out BR.out (by decide)) (.slice A1 b.length c1)) (blk_ne BP.out BR.out (by decide)) (.bool false))
     have n4_:=Ha (Hg (Hg BR.out 0 (.slice A1 b.length c1) rfl) 1 (.bool false) rfl)
     skip
     clear B3 B6 HB BP BR hgr
     have B3:=n0_
     have B6:=n1_
     have HB:=n2_
     have BP:=n3_
     have BR:=n4_
     clear n0_ n1_ n2_ n3_ n4_
     have n9_:Aside0 (w2.heap.size≤_):=⟨Nat.le_trans HS2.out (Nat.le_of_eq (set2_size _ gR 0 1 (.slice A1 b.length c1) (.bool false)).symm)⟩
     clear HS2
     have HS2:=n9_
     clear n9_
     refine hK.out _ _ ⟨(Hb B3.out 0).trans rfl,(Hb B3.out 1).trans rfl⟩ (fun hHeld=>?_)
     clear hK K
     refine one_ (i:=11) (N:=some 36) #[true,true,true,true,true,true,true,true,true,true,true,true,false,true,true,true,false] rfl rfl (by kernel_rfl) (by decide) (fun K hK=>?_)
     refine Kd.R_make_step (Kd.int .i64) _ 2 (by rfl) (N:=36) rfl 22 _ _ rfl (n:Int) rfl rfl Try.underlying22 (.int .i64 0) 8 turn_info rfl (by decide) (by omega) 0 (ok:=fun _=>True) (okp:=fun _=>True) rfl (fun _ hk=>hk) trivial (Int.natCast_nonneg n) (by have:=HN.out.2;rw [Int.toNat_natCast];omega) (Below.refl _ _) (Nat.le_refl _) ?_
     intro vX W_ ho_ hb hg_ hnew_
     clear hg_ hnew_
     rw [Int.toNat_natCast] at ho_
     have HX:=Ha (Kd.R_lower ho_ HB.out.size)
     have n9_:=Ha (Nat.le_trans HS2.out hb.size)
     have n0_:=Ha (Hc B3.out hb)
     have n1_:=Ha (Hc B6.out hb)
     have n2_:=Ha (Hh HB.out hb)
     clear B3 B6 HB
     have B3:=n0_
     have B6:=n1_
     have HB:=n2_
     clear n0_ n1_ n2_
     have n0_:=Ha (Hc BR.out hb)
     clear BR
     have BR:=n0_
     clear n0_
     have n0_:=Ha (Hc BP.out hb)
     clear BP
     have BP:=n0_
     clear n0_
     clear HS2 hb ho_
     have HS2:=n9_
     clear n9_
     obtain⟨AX,cX,eX⟩:=Kd.R_slice HX.out
     rw [List.length_replicate] at eX
     subst eX
     refine hK.out _ _ ⟨(Hb B3.out 0).trans rfl,(Hb B3.out 1).trans rfl⟩ (fun hHeld=>?_)
     clear hK K
     refine norm_ (a':=?_) ?_ ?_
     rotate_left
     ·show Act.put _ (some 36) _=_
      simp only [Act.put,List.setIfInBounds_toArray,List.set_cons_zero,List.set_cons_succ,i64_w,i32_w]
      rfl
     refine pure_ (i:=12) (N:=some 37) (v:=?_) (a':=?_) #[true,true,true,true,true,true,true,true,true,true,true,true,true,true,true,true,false] rfl rfl (by kernel_rfl) (fun _ _ _ h=>h) (Or.inl ⟨by rfl,?_⟩) ?_ ?_
     rotate_left
     ·intro w'
      go_simp
      with_reducible rfl
     rotate_left
     ·simp only [Act.put,List.setIfInBounds_toArray,List.set_cons_zero,List.set_cons_succ,i64_w,i32_w]
      rfl
     exact norm_ (by simp only [putAll,Act.put,List.setIfInBounds_toArray,List.set_cons_zero,List.set_cons_succ]) (hCont (.slice AX n cX,gR,gP) _ ⟨hHeld,HX.out,BR.out,BP.out,B3.out,B6.out,GR.out,GP.out,HB.out⟩)
 rintro⟨vX,gR,gP⟩ W3 ⟨hHeld,hx,br,bp,b3,b6,ger,gep,hbl⟩
 obtain⟨AX,cX,eX⟩:=Kd.R_slice hx
 rw [List.length_replicate] at eX
 subst eX
 have HX:=Ha hx
 have BR:=Ha br
 have BP:=Ha bp
 have B3:=Ha b3
 have B6:=Ha b6
 have GR:=Ha ger
 have GP:=Ha gep
 have HB:=Ha hbl
 clear hx br bp b3 b6 ger gep hbl
 refine norm_ (a':=?_) ?_ ?_
 rotate_left
 ·simp only [putAll,Act.put,List.setIfInBounds_toArray,List.set_cons_zero,List.set_cons_succ]
  rfl
 have p0:=(Hb BP.out 0).trans rfl
 have p1:=(Hb BP.out 1).trans rfl
 have p2:=(Hb BP.out 2).trans rfl
 have f0:=Hf BP.out 0
 have f1:=Hf BP.out 1
 have f2:=Hf BP.out 2
 refine one_ (i:=16) (N:=none) #[true,true,true,true,true,true,true,true,true,true,true,true,true,true,true,true,true] rfl rfl (by kernel_rfl) (by decide) (fun K hK=>?_)
 refine skip_ (w1:=?_) (by rfl) rfl ?_ ?_
 rotate_left
 ·go_simp
  rfl
 have hg:w2.heap.size≤gP:=GP.out
 have hgr:w2.heap.size≤gR:=GR.out
 have e3:w.heap.size≠gP:=Nat.ne_of_lt (Nat.lt_of_lt_of_le z0.out hg)
 have e6:w.heap.size+1≠gP:=Nat.ne_of_lt (Nat.lt_of_lt_of_le z1.out hg)
 have eR:gR≠gP:=blk_ne BR.out BP.out (by decide)
 have lw:w.heap.size≤gP:=Nat.le_trans (Nat.le_of_lt z0.out) hg
 have lr:w.heap.size≤gR:=Nat.le_trans (Nat.le_of_lt z0.out) hgr
 have BP1:=Hg BP.out 0 (.int .i64 pw) rfl
 have BP2:=Hg BP1 1 (.int .i64 ph) rfl
 have BP3:=Hg BP2 2 (.slice AX n cX) rfl
 have BR3:=He (p:=⟨gP,2,none⟩) (He (p:=⟨gP,1,none⟩) (He (p:=⟨gP,0,none⟩) BR.out eR (.int .i64 pw)) eR (.int .i64 ph)) eR (.slice AX n cX)
 have HX3:=Kd.R_mono (Kd.R_types (Kd.R_set (Kd.R_set (Kd.R_set HX.out BP.out (by decide) 0 (.int .i64 pw)) BP1 (by decide) 1 (.int .i64 ph)) BP2 (by decide) 2 (.slice AX n cX)) BR3 (by decide)) (fun k hk=>(hk.2:k≠gR))
 have DI:=Ha (show DecI w _ pw ph A0 c0 px gR gP AX n cX b (List.replicate n 0) from⟨⟨lr,A1,c1,BR3,HR1.out,HC1.out⟩,BP3,
  He (p:=⟨gP,2,none⟩) (He (p:=⟨gP,1,none⟩) (He (p:=⟨gP,0,none⟩) B3.out e3 (.int .i64 pw)) e3 (.int .i64 ph)) e3 (.slice AX n cX),
  He (p:=⟨gP,2,none⟩) (He (p:=⟨gP,1,none⟩) (He (p:=⟨gP,0,none⟩) B6.out e6 (.int .i64 pw)) e6 (.int .i64 ph)) e6 (.slice AX n cX),HX3,
  Hd (j:=2) (v:=.slice AX n cX) (Hd (j:=1) (v:=.int .i64 ph) (Hd (j:=0) (v:=.int .i64 pw) HB.out lw) lw) lw⟩)
 clear BP1 BP2 BP3 BR3 HX3 B3 B6 BR BP HX HB e3 e6 eR hg hgr lw f0 f1 f2 p0 p1 p2
 revert DI
 generalize (((W3.setCell ⟨gP,0,none⟩ (.int .i64 pw)).setCell ⟨gP,1,none⟩ (.int .i64 ph)).setCell ⟨gP,2,none⟩ (.slice AX n cX))=W4
 intro DI
 refine hK.out _ _ ⟨(Hb DI.out.b3 0).trans rfl,(Hb DI.out.b3 1).trans rfl⟩ (fun hHeld=>?_)
 clear hK K
 refine done_ (by kernel_rfl) ?_
 clear hHeld hw0
 have b0:W4.cell? ⟨w.heap.size,0,none⟩=some (.int .i64 pw):=(Hb DI.out.b3 0).trans rfl
 have b1:W4.cell? ⟨w.heap.size,1,none⟩=some (.int .i64 ph):=(Hb DI.out.b3 1).trans rfl
 have b2:W4.cell? ⟨w.heap.size,2,none⟩=some (.slice A0 px.length c0):=(Hb DI.out.b3 2).trans rfl
 go_wp2_with (go_at_call 70;have hA_:=impl_Picture_blocks.calls pw ph A0 c0 px (nb:Int) _ (Kd.C_below HR0.out DI.out.hb) HC0.out HNB.out;(with_reducible refine hA_.mono ?_);clear hA_;rintro e w5 ⟨rfl,hb5⟩;have n0_:=Ha (DI.out.below hb5);clear DI hb5;have DI:=n0_;clear n0_)
 clear b0 b1 b2
 go_loopg [40] nb (fun gg v40 w'=>∃ (kk:Nat) (L out:List Int),Aside0 (kk≤nb∧nb - kk≤gg)∧v40=.int .i64 (kk:Int)∧Aside0 (decG kr pw ph px q (nb - kk) (kk:Int) L out=some res)∧Aside0 (out.length=n)∧Aside0 (DecI w w' pw ph A0 c0 px gR gP AX n cX L out))
 case atStart=>exact⟨0,b,List.replicate n 0,⟨Nat.zero_le _,Nat.le_refl _⟩,rfl,HD,⟨by simp⟩,DI⟩
 case round=>
  clear DI HD
  obtain⟨kk,L,out,HK,rfl,HDG,HLO,DI⟩:=hrel
  have b0:wr.cell? ⟨w.heap.size,0,none⟩=some (.int .i64 pw):=(Hb DI.out.b3 0).trans rfl
  have b1:wr.cell? ⟨w.heap.size,1,none⟩=some (.int .i64 ph):=(Hb DI.out.b3 1).trans rfl
  have b2:wr.cell? ⟨w.heap.size,2,none⟩=some (.slice A0 px.length c0):=(Hb DI.out.b3 2).trans rfl
  by_cases hlt:kk < nb
  ·have hltb:decide (kk < nb)=true:=decide_eq_true hlt
   have HLT:=Ha hlt
   have HWK:=Ha (show Value.int .i64 (wrap64 ((kk:Int)+1))=.int .i64 ((kk+1:Nat):Int) from by rw [show wrap64 ((kk:Int)+1)=((kk+1:Nat):Int) by have:=HNB2.out;unfold wrap64;omega])
   have H:=HDG.out
   rw [show nb - kk=(nb - (kk+1))+1 by omega,decG] at H
   clear HDG hlt
   by_cases hbad:badB L false=true
   ·rw [if_pos hbad] at H
    obtain rfl:=Option.some.inj H
    have HBAD:=Ha hbad
    clear H hbad
    have hnil:=fun (W:World)=>dec_nil W none 0 0
    go_wp2_with (go_at_call 75;have hA_:=rd_block_bad gR L false w wr pw ph A0 c0 px (kk:Int) q DI.out.rd_ DI.out.hb HBAD.out;(with_reducible refine hA_.mono ?_);clear hA_;rintro e w6 ⟨rfl,⟨l6,s6,hI6⟩,hB6,hK6⟩;have n0_:=Ha (hK6.blk DI.out.b6 DI.out.ne.2.2 (by simp));have n1_:=Ha hB6;clear DI hI6 hB6 hK6;have B6:=n0_;have HB:=n1_;clear n0_ n1_;have x0_:=(Hb B6.out 0).trans rfl;have x1_:=(Hb B6.out 1).trans rfl;have x2_:=(Hb B6.out 2).trans rfl;have f0_:=Hf B6.out 0;have f1_:=Hf B6.out 1;have f2_:=Hf B6.out 2)
    refine bodyPost_ret (results_list (rs:=[.cell 6 27,.tmp 7]) rfl (by simp) (.cell (w.heap.size+1) 27 #[.int .i64 0,.int .i64 0,.slice none 0 0] (0,0) _ rfl (Hg (Hg (Hg B6.out 0 _ rfl) 1 _ rfl) 2 _ rfl) huP rfl (by kernel_rfl) (.tmp .nil))) rfl ?_
    exact⟨.slice none 0 0,rfl,Kd.R_nil _ _ _ _ _,Hd (Hd (Hd HB.out (Nat.le_succ _)) (Nat.le_succ _)) (Nat.le_succ _)⟩
   ·rw [if_neg hbad] at H
    by_cases hneg:nextV L.tail < 0
    ·rw [if_pos hneg] at H
     cases H
    ·rw [if_neg hneg] at H
     obtain⟨m,hm⟩:=Int.eq_ofNat_of_zero_le (show 0≤nextV L.tail by omega)
     have HM:=Ha hm
     have HBAD:=Ha (Bool.eq_false_iff.2 hbad)
     rw [hm,Int.toNat_natCast] at H
     clear hbad hneg hm
     by_cases hsh:lvShort m L.tail.tail (twoS L false)=true
     ·rw [if_pos hsh] at H
      obtain rfl:=Option.some.inj H
      have HSH:=Ha hsh
      clear H hsh
      have hnil:=fun (W:World)=>dec_nil W none 0 0
      go_wp2_with (go_at_call 75;have hA_:=rd_block_short gR L false w wr pw ph A0 c0 px (kk:Int) q m DI.out.rd_ DI.out.hb HBAD.out HR0.out HC0.out HM.out HSH.out;(with_reducible refine hA_.mono ?_);clear hA_;rintro e w6 ⟨rfl,⟨l6,s6,hI6⟩,hB6,hK6⟩;have n0_:=Ha (hK6.blk DI.out.b6 DI.out.ne.2.2 (by simp));have n1_:=Ha hB6;clear DI hI6 hB6 hK6;have B6:=n0_;have HB:=n1_;clear n0_ n1_;have x0_:=(Hb B6.out 0).trans rfl;have x1_:=(Hb B6.out 1).trans rfl;have x2_:=(Hb B6.out 2).trans rfl;have f0_:=Hf B6.out 0;have f1_:=Hf B6.out 1;have f2_:=Hf B6.out 2)
      refine bodyPost_ret (results_list (rs:=[.cell 6 27,.tmp 7]) rfl (by simp) (.cell (w.heap.size+1) 27 #[.int .i64 0,.int .i64 0,.slice none 0 0] (0,0) _ rfl (Hg (Hg (Hg B6.out 0 _ rfl) 1 _ rfl) 2 _ rfl) huP rfl (by kernel_rfl) (.tmp .nil))) rfl ?_
      exact⟨.slice none 0 0,rfl,Kd.R_nil _ _ _ _ _,Hd (Hd (Hd HB.out (Nat.le_succ _)) (Nat.le_succ _)) (Nat.le_succ _)⟩
     ·rw [if_neg hsh] at H
      have HSH:=Ha (Bool.eq_false_iff.2 hsh)
      clear hsh
      obtain⟨o,ho,H⟩:=Option.bind_eq_some_iff.1 H
      obtain⟨mo,hmo,H⟩:=Option.bind_eq_some_iff.1 H
      obtain⟨⟨cx,cy⟩,hc,H⟩:=Option.bind_eq_some_iff.1 H
      by_cases hg:o.length=16∧mo.length=16∧idxOk pw cx cy out.length
      ·rw [if_pos hg] at H
       have HDG:=Ha H
       have HO:=Ha ho
       have HMO:=Ha hmo
       have HC:=Ha hc
       have HG:=Ha hg
       clear H ho hmo hc hg
       have hl0:0 < out.length:=by have h_:=HG.out.2.2.2.2.2 0 (by omega);omega
       obtain⟨gX,cX2,eX,gbX,glX,_⟩:=Kd.R_form DI.out.hx hl0
       injection eX with ea en ec
       subst ea ec
       clear en hl0
       have HGX:=Ha (And.intro gbX glX)
       clear gbX glX
       have hl16:(outG o mo q 16).length=16:=by rw [outG_len _ _ _ _ (Nat.le_of_eq HG.out.1.symm)];exact HG.out.1
       have HL16:=Ha hl16
       clear hl16
       go_wp2_with (first|(go_at_call 75;have hA_:=rd_block_good kr gR L false w wr pw ph A0 c0 px (kk:Int) q m o mo DI.out.rd_ DI.out.hb HBAD.out HR0.out HC0.out HM.out HSH.out HO.out HMO.out HG.out.1 HG.out.2.1;(with_reducible refine hA_.mono ?_);clear hA_;rintro e w6 ⟨v6,rfl,hv6,hI6,hB6,hK6⟩;obtain⟨gV,cV,eV,gbV,glV,_⟩:=Kd.R_form hv6 (by rw [HL16.out];omega);rw [HL16.out] at eV;subst eV;have RV:=Ha (Kd.R_mono (Kd.R_bound hv6) (fun k hk=>(show k≠gX by have:=HGX.out.2;have:=hk.2.1;omega)));have n0_:=Ha (DI.out.keep hI6 hB6 hK6);clear DI hv6 hI6 hB6 hK6 gbV glV b0 b1 b2;have DI:=n0_;clear n0_;have b0:=(Hb DI.out.b3 0).trans rfl;have b1:=(Hb DI.out.b3 1).trans rfl;have b2:=(Hb DI.out.b3 2).trans rfl;have hnil:=fun (W:World)=>dec_nil W (some ⟨gV,0,none⟩) 16 cV)|(go_at_call 76;have hA_:=impl_Picture_corner.calls pw ph A0 c0 px (kk:Int) cx cy w6 (Kd.C_below HR0.out DI.out.hb) HC0.out HC.out;(with_reducible refine hA_.mono ?_);clear hA_;rintro e w7 ⟨rfl,hb7⟩;have n0_:=Ha (DI.out.below hb7);have n1_:=Ha (Kd.R_below RV.out hb7);clear DI RV hb7 b0 b1 b2 hnil;have DI:=n0_;have RV:=n1_;clear n0_ n1_))
       go_loopg [58] 16 (fun gg v58 w'=>∃ i:Nat,Aside0 (i≤16∧16 - i≤gg)∧v58=.int .i64 (i:Int)∧Aside0 (DecI w w' pw ph A0 c0 px gR gP (some ⟨gX,0,none⟩) n cX (lvRest m L.tail.tail) (putG pw cx cy (outG o mo q 16) i out))∧Aside0 (Kd.R (Kd.int .i64) 2 w' wr.heap.size (fun k=>k≠gX) (.slice (some ⟨gV,0,none⟩) 16 cV) (outG o mo q 16)))
       case atStart=>exact⟨0,⟨Nat.zero_le _,Nat.le_refl _⟩,rfl,DI,RV⟩
       case round=>
        clear DI RV
        obtain⟨i,HI,rfl,DI,RV⟩:=hrel
        by_cases hi:i < 16
        ·have HI16:=Ha hi
         have hib:decide ((i:Int) < 16)=true:=decide_eq_true (by omega)
         have q0:(0≤(i:Int))=True:=eq_true (by omega)
         have q1:((i:Int) < 16)=True:=eq_true (by omega)
         have hix:=HG.out.2.2.2.2.2 i hi
         obtain⟨ix,eix⟩:∃ ix:Int,idxP pw cx cy i=ix:=⟨_,rfl⟩
         rw [eix,HLO.out] at hix
         obtain⟨ad1,e1,x1⟩:=Kd.at_int (Kd.R_reads' RV.out).2.2 (i:Int) (by omega) (by rw [HL16.out];omega)
         injection e1 with e1
         subst e1
         rw [Int.toNat_natCast,add_plain] at x1
         obtain⟨xo,fo⟩:=Kd.R_celln 0 DI.out.hx ix hix.1 hix.2
         have pP:wr.cell? ⟨gP,2,none⟩=some (.slice (some ⟨gX,0,none⟩) n cX):=(Hb DI.out.bp 2).trans rfl
         have b0:wr.cell? ⟨w.heap.size,0,none⟩=some (.int .i64 pw):=(Hb DI.out.b3 0).trans rfl
         have i0:(0≤ix)=True:=eq_true hix.1
         have i1:(ix < (n:Int))=True:=eq_true hix.2
         obtain⟨xv,exv⟩:∃ xv:Int,rd (outG o mo q 16) (i:Int)=xv:=⟨_,rfl⟩
         rw [exv] at x1
         have HXV:=Ha exv
         have HIX:=Ha eix
         obtain⟨y1,ey1⟩:∃ z:Int,(i:Int) / 4=z:=⟨_,rfl⟩
         obtain⟨y2,ey2⟩:∃ z:Int,cy+y1=z:=⟨_,rfl⟩
         obtain⟨y3,ey3⟩:∃ z:Int,y2*pw=z:=⟨_,rfl⟩
         obtain⟨y4,ey4⟩:∃ z:Int,y3+cx=z:=⟨_,rfl⟩
         obtain⟨y5,ey5⟩:∃ z:Int,(i:Int) % 4=z:=⟨_,rfl⟩
         have ey6:y4+y5=ix:=by rw [← eix,idxP,ey1,ey2,ey3,ey4,ey5]
         have hy:=dec_small pw cx cy y1 y2 y3 y4 y5 HG.out.2.2.1 HG.out.2.2.2.1 HG.out.2.2.2.2.1 (by rw [← ey1];exact dec_q i HI16.out) ey2 ey3 ey4 (by rw [← ey5];exact dec_r i HI16.out)
         have k1:wrap64 ((i:Int) / 4)=y1:=by rw [ey1];exact hy.1
         have k2:wrap64 (cy+y1)=y2:=by rw [ey2];exact hy.2.1
         have k3:wrap64 (y2*pw)=y3:=by rw [ey3];exact hy.2.2.1
         have k4:wrap64 (y3+cx)=y4:=by rw [ey4];exact hy.2.2.2.1
         have k5:wrap64 (y4+(i:Int) % 4)=ix:=by rw [ey5,hy.2.2.2.2];exact ey6
         have HIW:=Ha (show Value.int .i64 (wrap64 ((i:Int)+1))=.int .i64 ((i+1:Nat):Int) from dec_wrap i (Nat.lt_trans HI16.out (by decide)))
         have fin:=Ha (show DecI w (wr.setCell ⟨gX,ix.toNat,none⟩ (.int .i64 xv)) pw ph A0 c0 px gR gP (some ⟨gX,0,none⟩) n cX (lvRest m L.tail.tail) (putG pw cx cy (outG o mo q 16) (i+1) out) from by
          have h1:=(Kd.R_putg (enc:=Value.int .i64) (h1:=fun _=>rfl) DI.out.hx ix xv).1
          have e1:putG pw cx cy (outG o mo q 16) (i+1) out=(putG pw cx cy (outG o mo q 16) i out).set ix.toNat xv:=by rw [putG,eix,exv]
          rw [e1]
          obtain⟨hr0_,Ar_,cr_,hhr_,hrr_⟩:=DI.out.rd_
          have nr:gR≠gX:=fun e_=>(DI.out.hx.1 gX (by simp [Value.ownBlock])) e_.symm
          have hcx:=Kd.R_typed DI.out.hx gX (by simp [Value.ownBlock])
          obtain⟨cells_,hcc_⟩:=hcx
          have np:gP≠gX:=blk_ne DI.out.bp hcc_ (by decide)
          have n3:w.heap.size≠gX:=blk_ne DI.out.b3 hcc_ (by decide)
          have n6:w.heap.size+1≠gX:=blk_ne DI.out.b6 hcc_ (by decide)
          exact⟨DI.out.rd_.keep (Below.heap_setCell _ ⟨gX,ix.toNat,none⟩ _ gR nr),He (p:=⟨gX,ix.toNat,none⟩) DI.out.bp np _,He (p:=⟨gX,ix.toNat,none⟩) DI.out.b3 n3 _,He (p:=⟨gX,ix.toNat,none⟩) DI.out.b6 n6 _,h1,Hd DI.out.hb HGX.out.1⟩)
         have fin2:=Ha (Kd.R_far (p:=⟨gX,ix.toNat,none⟩) RV.out (fun _ hk=>hk) (.int .i64 xv))
         clear hix eix exv hi ey1 ey2 ey3 ey4 ey5 ey6 hy DI RV
         go_wp2
         go_roundg (16 - (i+1))
         case measure=>have:=HI.out;have:=HI16.out;omega
         case rel=>exact⟨i+1,⟨HI16.out,Nat.le_refl _⟩,HIW.out,fin,fin2⟩
        ·have hib:decide ((i:Int) < 16)=false:=decide_eq_false (by omega)
         have hi16:i=16:=by have:=HI.out;omega
         subst hi16
         go_wp2
         go_roundg (nb - (kk+1))
         case measure=>have:=HK.out;have:=HLT.out;omega
         case rel=>exact⟨kk+1,lvRest m L.tail.tail,putG pw cx cy (outG o mo q 16) 16 out,⟨HLT.out,Nat.le_refl _⟩,HWK.out,HDG,⟨by rw [putG_len];exact HLO.out⟩,DI⟩
      ·rw [if_neg hg] at H
       cases H
  ·have hltb:decide (kk < nb)=false:=decide_eq_false hlt
   have H:=HDG.out
   rw [show nb - kk=0 by omega,decG] at H
   obtain rfl:=Option.some.inj H
   clear H HDG b0 b1 b2
   obtain⟨_,AL,cL,hh_,_⟩:=DI.out.rd_
   have r0_:=(Hb hh_ 0).trans rfl
   clear hh_
   have z0_:wr.cell? ⟨w.heap.size+1,0,none⟩=some (.int .i64 0):=(Hb DI.out.b6 0).trans rfl
   have z1_:wr.cell? ⟨w.heap.size+1,1,none⟩=some (.int .i64 0):=(Hb DI.out.b6 1).trans rfl
   have z2_:wr.cell? ⟨w.heap.size+1,2,none⟩=some (.slice none 0 0):=(Hb DI.out.b6 2).trans rfl
   have f0_:=Hf DI.out.b6 0
   have f1_:=Hf DI.out.b6 1
   have f2_:=Hf DI.out.b6 2
   cases L with
   | nil =>
    have p0_:wr.cell? ⟨gP,0,none⟩=some (.int .i64 pw):=(Hb DI.out.bp 0).trans rfl
    have p1_:wr.cell? ⟨gP,1,none⟩=some (.int .i64 ph):=(Hb DI.out.bp 1).trans rfl
    have p2_:wr.cell? ⟨gP,2,none⟩=some (.slice AX n cX):=(Hb DI.out.bp 2).trans rfl
    simp only [List.length_nil] at r0_
    go_wp2
    refine bodyPost_ret (results_list (rs:=[.cell 6 27,.tmp 7]) rfl (by simp) (.cell (w.heap.size+1) 27 #[.int .i64 pw,.int .i64 ph,.slice AX n cX] (0,0) _ rfl (Hg (Hg (Hg DI.out.b6 0 _ rfl) 1 _ rfl) 2 _ rfl) huP rfl (by kernel_rfl) (.tmp .nil))) rfl ?_
    exact⟨.slice AX n cX,rfl,Kd.R_mono (Kd.R_set (Kd.R_set (Kd.R_set DI.out.hx DI.out.b6 (by decide) 0 (.int .i64 pw)) (Hg DI.out.b6 0 _ rfl) (by decide) 1 (.int .i64 ph)) (Hg (Hg DI.out.b6 0 _ rfl) 1 _ rfl) (by decide) 2 (.slice AX n cX)) (fun _ _=>trivial),Hd (Hd (Hd DI.out.hb (Nat.le_succ _)) (Nat.le_succ _)) (Nat.le_succ _)⟩
   | cons x L =>
    have c0_:decide (0 < (((x :: L).length:Nat):Int))=true:=decide_eq_true (Int.natCast_pos.2 (by simp))
    have c1_:decide (0 < (x :: L).length)=true:=decide_eq_true (by simp)
    generalize (x :: L).length=nl at r0_ c0_ c1_
    go_wp2
    refine bodyPost_ret (results_list (rs:=[.cell 6 27,.tmp 7]) rfl (by simp) (.cell (w.heap.size+1) 27 #[.int .i64 0,.int .i64 0,.slice none 0 0] (0,0) _ rfl (Hg (Hg (Hg DI.out.b6 0 _ rfl) 1 _ rfl) 2 _ rfl) huP rfl (by kernel_rfl) (.tmp .nil))) rfl ?_
    exact⟨.slice none 0 0,rfl,Kd.R_nil _ _ _ _ _,Hd (Hd (Hd DI.out.hb (Nat.le_succ _)) (Nat.le_succ _)) (Nat.le_succ _)⟩
set_option maxHeartbeats 2000000 in
set_option maxRecDepth 100000 in
theorem dec_no (pw ph : Int) (A0 : Option Addr) (c0 : Nat) (px : List Int) (A1 : Option Addr) (c1 : Nat) (b : List Int) (q : Int) (w : World) (hr0 : Kd.C (Kd.int .i64) w A0 px.length px) (hc0 : px.length ≤ c0) (hr1 : Kd.C (Kd.int .u8) w A1 b.length b) (hc1 : b.length ≤ c1) (ok : Bool) (hok : impl_PictureOk.f pw ph px = some ok) (hq : ¬ (ok = true ∧ (1 ≤ q ∧ q ≤ 64))) :
  Calls Try.prog 36 #[.agg #[.int .i64 pw,.int .i64 ph,.slice A0 px.length c0],.slice A1 b.length c1,.int .i64 q] w (DecQ w 0 0 [] false):=by
 have huP:=Try.underlying27
 have HR0:=Ha hr0
 have HC0:=Ha hc0
 have HOK:=Ha hok
 have hin:impl_in.f q 1 64=some (decide (1≤q∧q≤64)):=by
  unfold impl_in.f
  by_cases h:1≤q
  ·rw [if_pos h];simp [h]
  ·rw [if_neg h];simp;omega
 have HQ:=Ha hin
 have B12:=Ha (dec_two w (.cells #[.int .i64 pw,.int .i64 ph,.slice A0 px.length c0] 27 (0,0)) (.cells #[.int .i64 0,.int .i64 0,.slice none 0 0] 27 (0,0)))
 have HB:=Ha (below_alloc (below_alloc (Below.refl w.heap.size w) (.cells #[.int .i64 pw,.int .i64 ph,.slice A0 px.length c0] 27 (0,0))) (.cells #[.int .i64 0,.int .i64 0,.slice none 0 0] 27 (0,0)))
 clear hr0 hc0 hr1 hc1 hok hin
 cases ok with
 | false =>
  clear hq HQ
  go_enter Try.func36,Try.ntmps36
  go_wp2_with (first|(go_at_call 17;have hA_:=impl_PictureOk.calls pw ph A0 c0 px false _ (Kd.C_below HR0.out HB.out) HC0.out HOK.out;(with_reducible refine hA_.mono ?_);clear hA_;rintro e w2 ⟨rfl,hb2⟩;have n1_:=Ha (Hc B12.out.2 hb2);have n2_:=Ha (Hh HB.out hb2);clear HB B12 hb2;have B6:=n1_;have HB:=n2_;clear n1_ n2_;have x0_:=(Hb B6.out 0).trans rfl;have x1_:=(Hb B6.out 1).trans rfl;have x2_:=(Hb B6.out 2).trans rfl;have f0_:=Hf B6.out 0;have f1_:=Hf B6.out 1;have f2_:=Hf B6.out 2)|(go_at_call 49;refine(impl_in.calls q 1 64 false _ HQ.out).mono ?_;rintro e w' ⟨rfl,⟨nd,rfl⟩⟩))
  refine bodyPost_ret (results_list (rs:=[.cell 6 27,.tmp 7]) rfl (by simp) (.cell (w.heap.size+1) 27 #[.int .i64 0,.int .i64 0,.slice none 0 0] (0,0) _ rfl (by first|exact Hg (Hg (Hg B6.out 0 _ rfl) 1 _ rfl) 2 _ rfl|exact Hg (Hg (Hg (blk_drewN B6.out _) 0 _ rfl) 1 _ rfl) 2 _ rfl) huP rfl (by kernel_rfl) (.tmp .nil))) rfl ?_
  exact⟨.slice none 0 0,rfl,Kd.R_nil _ _ _ _ _,by first|exact Hd (Hd (Hd HB.out (Nat.le_succ _)) (Nat.le_succ _)) (Nat.le_succ _)|exact Hd (Hd (Hd (pw_below_drewN HB.out _) (Nat.le_succ _)) (Nat.le_succ _)) (Nat.le_succ _)⟩
 | true =>
  have hq2:decide (1≤q∧q≤64)=false:=decide_eq_false (fun h=>hq ⟨rfl,h⟩)
  rw [hq2] at HQ
  clear hq hq2
  go_enter Try.func36,Try.ntmps36
  go_wp2_with (first|(go_at_call 17;have hA_:=impl_PictureOk.calls pw ph A0 c0 px true _ (Kd.C_below HR0.out HB.out) HC0.out HOK.out;(with_reducible refine hA_.mono ?_);clear hA_;rintro e w2 ⟨rfl,hb2⟩;have n1_:=Ha (Hc B12.out.2 hb2);have n2_:=Ha (Hh HB.out hb2);clear HB B12 hb2;have B6:=n1_;have HB:=n2_;clear n1_ n2_;have x0_:=(Hb B6.out 0).trans rfl;have x1_:=(Hb B6.out 1).trans rfl;have x2_:=(Hb B6.out 2).trans rfl;have f0_:=Hf B6.out 0;have f1_:=Hf B6.out 1;have f2_:=Hf B6.out 2)|(go_at_call 49;refine(impl_in.calls q 1 64 false _ HQ.out).mono ?_;rintro e w' ⟨rfl,⟨nd,rfl⟩⟩))
  refine bodyPost_ret (results_list (rs:=[.cell 6 27,.tmp 7]) rfl (by simp) (.cell (w.heap.size+1) 27 #[.int .i64 0,.int .i64 0,.slice none 0 0] (0,0) _ rfl (by first|exact Hg (Hg (Hg B6.out 0 _ rfl) 1 _ rfl) 2 _ rfl|exact Hg (Hg (Hg (blk_drewN B6.out _) 0 _ rfl) 1 _ rfl) 2 _ rfl) huP rfl (by kernel_rfl) (.tmp .nil))) rfl ?_
  exact⟨.slice none 0 0,rfl,Kd.R_nil _ _ _ _ _,by first|exact Hd (Hd (Hd HB.out (Nat.le_succ _)) (Nat.le_succ _)) (Nat.le_succ _)|exact Hd (Hd (Hd (pw_below_drewN HB.out _) (Nat.le_succ _)) (Nat.le_succ _)) (Nat.le_succ _)⟩
def decF (k : Nat) (pw ph : Int) (px b : List Int) (q : Int) : Option (Int × Int × List Int × Bool) :=
 (impl_PictureOk.f pw ph px).bind fun ok => if ok = true ∧ (1 ≤ q ∧ q ≤ 64) then
  (impl_Picture_blocks.f pw ph px).bind fun nb => if (0 ≤ pw * ph ∧ pw * ph ≤ 256) ∧ (0 ≤ nb ∧ nb ≤ 16) then
   (decG k pw ph px q nb.toNat 0 b (List.replicate (pw * ph).toNat 0)).bind fun res => some (decOut pw ph res) else none
 else some (0, 0, [], false)
def impl_Decode.f (k : Nat) (a0_0 : Int) (a0_1 : Int) (l0_2 : List Int) (l1 : List Int) (a2 : Int) : Option (Int × Int × List Int × Bool) := decF k a0_0 a0_1 l0_2 l1 a2
theorem decG_mono (k : Nat) (pw ph : Int) (px : List Int) (q : Int) : ∀ (d : Nat) (i : Int) (L out : List Int), LeO (decG k pw ph px q d i L out) (decG (k + 1) pw ph px q d i L out)
 | 0, _, _, _ => LeO.refl _
 | d + 1, i, L, out => by
  unfold decG
  refine LeO.ite (LeO.refl _) (LeO.ite (LeO.refl _) (LeO.ite (LeO.refl _) (LeO.bind (impl_Picture_at.mono _ _ _ _ _ _ _) (fun o=>LeO.bind (LeO.refl _) (fun mo=>LeO.bind (LeO.refl _) (fun c=>LeO.ite (decG_mono k pw ph px q d _ _ _) (LeO.refl _)))))))
theorem impl_Decode.mono : ∀ a0 a1 a2 a3 a4 k, LeO (impl_Decode.f k a0 a1 a2 a3 a4) (impl_Decode.f (k + 1) a0 a1 a2 a3 a4) := by
 intro a0 a1 a2 a3 a4 k
 unfold impl_Decode.f decF
 exact LeO.bind (LeO.refl _) (fun ok=>LeO.ite (LeO.bind (LeO.refl _) (fun nb=>LeO.ite (LeO.bind (decG_mono k _ _ _ _ _ _ _ _) (fun _=>LeO.refl _)) (LeO.refl _))) (LeO.refl _))
theorem impl_Decode.calls (k : Nat) (a0_0 : Int) (a0_1 : Int) (A0_2 : Option Addr) (c0_2 : Nat) (l0_2 : List Int) (A1 : Option Addr) (c1 : Nat) (l1 : List Int) (a2 : Int) (r1 : Int) (r2 : Int) (r3 : List Int) (r4 : Bool) (w : World) (hr0_2 : Kd.C (Kd.int .i64) w A0_2 l0_2.length l0_2) (hc0_2 : l0_2.length ≤ c0_2) (hr1 : Kd.C (Kd.int .u8) w A1 l1.length l1) (hc1 : l1.length ≤ c1) (h : impl_Decode.f k a0_0 a0_1 l0_2 l1 a2 = some (r1, r2, r3, r4)) :
  Calls Try.prog 36 #[.agg #[.int .i64 a0_0,.int .i64 a0_1,.slice A0_2 l0_2.length c0_2],.slice A1 l1.length c1,.int .i64 a2] w fun e w'=>∃ v2_:Value,e=.returned (.tuple #[.agg #[.int .i64 r1,.int .i64 r2,v2_],.bool r4])∧Kd.R (Kd.int .i64) 2 w' w.heap.size (fun _=>True) v2_ r3∧Below w.heap.size w w':=by
 unfold impl_Decode.f decF at h
 obtain⟨ok,hok,h⟩:=Option.bind_eq_some_iff.1 h
 by_cases hg:ok=true∧(1≤a2∧a2≤64)
 ·rw [if_pos hg] at h
  obtain⟨nb,hnb,h⟩:=Option.bind_eq_some_iff.1 h
  by_cases hg2:(0≤a0_0*a0_1∧a0_0*a0_1≤256)∧(0≤nb∧nb≤16)
  ·rw [if_pos hg2] at h
   obtain⟨res,hres,h⟩:=Option.bind_eq_some_iff.1 h
   have h2:=Option.some.inj h
   obtain⟨n,hn⟩:=Int.eq_ofNat_of_zero_le hg2.1.1
   obtain⟨m,rfl⟩:=Int.eq_ofNat_of_zero_le hg2.2.1
   rw [hn,Int.toNat_natCast,Int.toNat_natCast] at hres
   have hm:=hg2.2.2
   have hn2:=hg2.1.2
   have hc:=dec_ok a0_0 a0_1 A0_2 c0_2 l0_2 A1 c1 l1 a2 w hr0_2 hc0_2 hr1 hc1 n k m res (hok.trans (by rw [hg.1])) hg.2 hn (by omega) hnb (by omega) hres
   unfold DecR at hc
   rw [h2] at hc
   exact hc
  ·rw [if_neg hg2] at h
   cases h
 ·rw [if_neg hg] at h
  have h2:=Option.some.inj h
  simp only [Prod.mk.injEq] at h2
  obtain⟨rfl,rfl,rfl,rfl⟩:=h2
  exact dec_no a0_0 a0_1 A0_2 c0_2 l0_2 A1 c1 l1 a2 w hr0_2 hc0_2 hr1 hc1 ok hok hg


end Go.Proofs.Ytbdnpfjjaokdbaa.HFnDecoded
