-- Laid by myprint.py, a program of this repo, out of the kit's printer and this repo's own texts (wip/hand).
import Derived.Test.YtidogkjhjmcliaaDoorHFnTitlesBackx0
import Derived.Test.YtidogkjhjmcliaaDoorHFnTitlesBackx5
import Derived.Test.YtidogkjhjmcliaaDoorHFnTitlesBackx13
import Derived.Test.YtidogkjhjmcliaaDoorHFnTitlesBackx14
import Derived.Test.YtidogkjhjmcliaaDoorCmp
namespace Go.Proofs.YtidogkjhjmcliaaDoor.HFnTitlesBack
open Go.RowKit Go.Proofs.YtidogkjhjmcliaaDoorW.PrintWords Go.Proofs.YtidogkjhjmcliaaDoorW.PrintLast Go.Proofs.YtidogkjhjmcliaaDoorW.PrintMore
attribute [local go_sem] max2_int min2_int max_two min_two max_three min_three max_four min_four   -- for this text's walks alone
set_option linter.unusedVariables false
set_option linter.unusedSimpArgs false
theorem Qa : type_of% @Aside0.mk := @Aside0.mk

/-! ### spec_DrawReadTitles: function 18 -/
/-! #### the drawn text: its bytes in a row of the call's own, of whatever mark behind them -/
structure RB (W : World) (B : Nat) (A : Option Addr) (c : Nat) (xs : List Int) : Prop where
 byte : ∀ x ∈ xs, 0 ≤ x ∧ x ≤ 255
 le : xs.length ≤ c
 max : xs.length ≤ 140737488355328
 row : 0 < xs.length → ∃ g cur fz, A = some ⟨g, 0, none⟩ ∧ B ≤ g ∧ W.heap[g]? = some (Obj.cells cur 5 fz) ∧ (fz = (0, 0) ∨ cur.size ≤ fz.1) ∧ xs.length ≤ cur.size ∧ cur.toList.take xs.length = nums .u8 xs
theorem RB.move {W W' : World} {B c : Nat} {A : Option Addr} {xs : List Int} (h : RB W B A c xs) (hk : ∀ (g : Nat) (cur : Array Value) (fz : Nat × Nat), W.heap[g]? = some (Obj.cells cur 5 fz) → W'.heap[g]? = some (Obj.cells cur 5 fz)) : RB W' B A c xs :=
 ⟨h.byte,h.le,h.max,fun hp=>by
  obtain⟨g,cur,fz,h1,h2,h3,h4⟩:=h.row hp
  exact⟨g,cur,fz,h1,h2,hk g cur fz h3,h4⟩⟩
theorem RB.below {W W' : World} {B c : Nat} {A : Option Addr} {xs : List Int} (h : RB W B A c xs) (hb : Below W.heap.size W W') : RB W' B A c xs := h.move fun g cur fz e => (hb.block g (Array.getElem?_eq_some_iff.1 e).1).trans e
theorem RB.cur {w0 W W' : World} {B c g : Nat} {A : Option Addr} {xs : List Int} {f0 : List Int} {f1 f2 : Int} (h : RB W B A c xs) (hI : IsS76 w0 W g f0 f1 f2) (hk : KeepBut W W' g none) : RB W' B A c xs := h.move fun q cur fz e => by
 have hne:g≠q:=hI.ne_blk e (by decide)
 exact(hk.2 q (Array.getElem?_eq_some_iff.1 e).1 (fun e'=>hne e'.symm) (by simp)).trans e
theorem RB.cell {W : World} {B c : Nat} {A : Option Addr} {xs : List Int} (h : RB W B A c xs) (hp : 0 < xs.length) : ∃ g, A = some ⟨g, 0, none⟩ ∧ B ≤ g ∧ ∀ i : Int, 0 ≤ i → i < (xs.length : Int) → W.cell? ⟨g, i.toNat, none⟩ = some (.int .u8 (rd xs i)) ∧ W.frozen? ⟨g, i.toNat, none⟩ = false := by
 obtain⟨g,cur,fz,h1,h2,h3,h4,h5,h6⟩:=h.row hp
 refine⟨g,h1,h2,fun i h0 hi=>?_⟩
 have hi2:i.toNat < xs.length:=by omega
 have e1:cur[i.toNat]? = some (.int .u8 (rd xs i)):=by
  have e2:=congrArg (fun l:List Value=>l[i.toNat]?) h6
  simp only [List.getElem?_take,hi2,if_true,nums,List.getElem?_map,List.getElem?_eq_getElem hi2,Option.map_some] at e2
  rw [Array.getElem?_toList] at e2
  rw [e2,rd,List.getD_eq_getElem?_getD,List.getElem?_eq_getElem hi2]
  rfl
 refine⟨by simp only [World.cell?,h3];exact e1,?_⟩
 obtain⟨lo,hi'⟩:=fz
 simp only [World.frozen?,h3]
 rcases h4 with h4|h4
 ·simp only [Prod.mk.injEq] at h4
  obtain⟨rfl,rfl⟩:=h4
  simp
 ·simp only at h4
  simp only [Bool.and_eq_false_iff,decide_eq_false_iff_not]
  left
  omega
theorem RB.C {W : World} {B c : Nat} {A : Option Addr} {xs : List Int} (h : RB W B A c xs) : Kd.C (Kd.int .u8) W A xs.length xs := by
 refine⟨rfl,by have:=h.max;omega,fun hp=>?_⟩
 obtain⟨g,h1,h2,h3⟩:=h.cell hp
 refine⟨_,h1,fun j p hj=>⟨[.int .u8 p],rfl,rfl,fun i u hu=>?_⟩⟩
 have hjl:=(List.getElem?_eq_some_iff.1 hj).1
 cases i with
 | succ i => simp at hu
 | zero =>
  simp only [List.getElem?_cons_zero,Option.some.injEq] at hu
  subst hu
  have h4:=(h3 (j:Int) (by omega) (by omega)).1
  rw [Int.toNat_natCast,rd,Int.toNat_natCast,List.getD_eq_getElem?_getD,hj] at h4
  have e:(⟨g,0,none⟩:Addr).add (j*(Kd.int .u8).sz+0)=⟨g,j,none⟩:=by
   show(⟨g,0,none⟩:Addr).add (j*1+0)=_
   unfold Addr.add
   split <;> simp_all
  rw [e]
  exact h4
theorem RB.take {W : World} {B c : Nat} {A : Option Addr} {xs : List Int} (h : RB W B A c xs) (m : Nat) (hm : m ≤ xs.length) : RB W B A c (xs.take m) := by
 have hl:(xs.take m).length=m:=by rw [List.length_take];omega
 refine⟨fun x hx=>h.byte x (List.mem_of_mem_take hx),by rw [hl];have:=h.le;omega,by rw [hl];have:=h.max;omega,fun hp=>?_⟩
 rw [hl] at hp ⊢
 obtain⟨g,cur,fz,h1,h2,h3,h4,h5,h6⟩:=h.row (by omega)
 refine⟨g,cur,fz,h1,h2,h3,h4,by omega,?_⟩
 have e:=congrArg (List.take m) h6
 rw [List.take_take,Nat.min_eq_left hm] at e
 rw [e]
 simp [nums,List.map_take]
theorem RB.set {W : World} {B c g : Nat} {xs : List Int} (h : RB W B (some ⟨g, 0, none⟩) c xs) (i x : Int) (h0 : 0 ≤ i) (hi : i < (xs.length : Int)) (hx : 0 ≤ x ∧ x ≤ 255) : RB (W.setCell ⟨g, i.toNat, none⟩ (.int .u8 x)) B (some ⟨g, 0, none⟩) c (xs.set i.toNat x) := by
 refine⟨fun y hy=>?_,by rw [List.length_set];exact h.le,by rw [List.length_set];exact h.max,fun hp=>?_⟩
 ·rcases List.mem_or_eq_of_mem_set hy with hy|hy
  ·exact h.byte y hy
  ·rw [hy];exact hx
 ·rw [List.length_set] at hp ⊢
  obtain⟨g',cur,fz,h1,h2,h3,h4,h5,h6⟩:=h.row hp
  obtain rfl:g=g':=by simpa using h1
  refine⟨g,cur.setIfInBounds i.toNat (.int .u8 x),fz,rfl,h2,?_,by simpa using h4,by simpa using h5,?_⟩
  ·simp [World.setCell,Array.getElem?_modify,h3]
  ·rw [Array.toList_setIfInBounds,List.take_set,h6]
   simp [nums,List.map_set]
theorem RB.of_R {W : World} {B n c : Nat} {A : Option Addr} {xs : List Int} {ok : Nat → Prop} (h : Kd.R (Kd.int .u8) 5 W B ok (.slice A n c) xs) (hb : ∀ x ∈ xs, 0 ≤ x ∧ x ≤ 255) (hm : xs.length ≤ 140737488355328) : RB W B A c xs := by
 obtain⟨e1,e2,e3⟩:=Kd.R_reads' h
 subst e1
 refine⟨hb,e2,hm,fun hp=>?_⟩
 have ho:=Kd.own_of_R h
 rcases ho.2 with ⟨h1,h2⟩|⟨g,cap,cur,h1,h2,h3,h4,h5,h6,h7⟩
 ·omega
 ·simp only [Value.slice.injEq] at h1
  obtain⟨rfl,_,rfl⟩:=h1
  refine⟨g,cur,(0,0),rfl,h2,h3,Or.inl rfl,by omega,?_⟩
  rw [Nat.mul_one] at h7
  exact h7
theorem below_bytes (W : World) (s : ByteArray) : Below W.heap.size W (Lib.bytesWorld W 5 s) :=
 ⟨rfl,rfl,rfl,by rw [Lib.bytesWorld_size];omega,fun i hi=>Lib.bytesWorld_at_old W 5 s i hi⟩
theorem RB.conv {W : World} {B : Nat} (hB : B ≤ W.heap.size) (s : ByteArray) (hs : s.size < 140737488355328) : RB (Lib.bytesWorld W 5 s) B (some ⟨W.heap.size, 0, none⟩) (grownCap W s.size 0 5) (bytesOf s) := by
 have hl:=bytesOf_length s
 refine⟨bytesOf_range s,by rw [hl];exact grownCap_ge W s.size 0 5,by rw [hl];omega,fun hp=>?_⟩
 refine⟨_,_,_,rfl,hB,Lib.bytesWorld_at_new W 5 s,Or.inr (Nat.le_refl _),?_,?_⟩
 ·rw [hl]
  simp only [Lib.bytesCells,Array.size_append,Array.size_map]
  exact Nat.le_add_right _ _
 ·rw [hl]
  have e:(s.data.map fun b=>Value.int .u8 b.toNat).toList.length=s.size:=by
   rw [Array.length_toList,Array.size_map]
   rfl
  unfold Lib.bytesCells
  rw [Array.toList_append,List.take_append_of_le_length (by omega),List.take_of_length_le (by omega)]
  simp [nums,bytesOf]
section
variable {P : Program} {ops : Array Oper} {rest : List Oper} {o : Oper} {a : Act} {Q : Exit → Act → World → Prop}
/-- '[]byte(s)', s no constant, as an operation of the walk. -/
theorem conv_event {W : World} (hgd : o.guard = none) (s : Operand) (src dst e : TypeId) (ho : o.op = .convert src dst s) {u : TypeDesc} (hs : P.underlying src = some u) (hd : P.underlying dst = some (.slice e)) (he : P.underlying e = some (.int .u8))
  (y:ByteArray) (hy:a.eval s=.string y) (h:wpList P ops Q rest (a.put o.dst (.slice (some ⟨W.heap.size,0,none⟩) y.size (grownCap W y.size 0 e))) (Lib.bytesWorld W e y)):wpList P ops Q (o :: rest) a W:=by
 refine wpList_plain hgd fun K hK=>?_
 have hr:=Lib.run_convert_string_bytes (P:=P) W src dst e y hs hd he
 unfold Oper.wp execOp
 simp only [ho,hy,Sem.run_bind,Sem.run_pure,hr,Result.andThen_ok]
 exact hK _ _ h
end

/-! #### spec.DrawReadTitles: what it answers -/
def litR : List Int := [48, 49, 50, 57, 58, 44, 45, 62, 10, 32, 120, 127]
def spec_DrawReadTitles.l0 : Nat → List Int → Int → Int → List Int → Int → Option ByteArray
 | 0, _, _, _, _, _ => none
 | k + 1, s0, s1, s2, xs, n => if n > 0 then (if (xs.length : Int) > 0 then ((spec_l1Below.f s0 s1 s2 (xs.length : Int)).bind fun p => ((spec_l1Below.f s0 p.2.1 p.2.2 4).bind fun q => (if 0 ≤ p.1 then (if p.1 < (xs.length : Int) then (if xs.length < 140737488355300 then (if q.1 = 0 then ((spec_l1Below.f s0 q.2.1 q.2.2 12).bind fun u => (if 0 ≤ u.1 then (if u.1 < 12 then (spec_DrawReadTitles.l0 k s0 u.2.1 u.2.2 (xs.set p.1.toNat (rd litR u.1)) (wrap64 (n - 1))) else none) else none)) else (if q.1 = 1 then (spec_DrawReadTitles.l0 k s0 q.2.1 q.2.2 (xs.take p.1.toNat) (wrap64 (n - 1))) else (if q.1 = 2 then (spec_DrawReadTitles.l0 k s0 q.2.1 q.2.2 (xs.take p.1.toNat ++ xs.drop (p.1.toNat + 1)) (wrap64 (n - 1))) else (if q.1 = 3 then (spec_DrawReadTitles.l0 k s0 q.2.1 q.2.2 ((xs.take p.1.toNat ++ [10]) ++ xs.drop p.1.toNat) (wrap64 (n - 1))) else none)))) else none) else none) else none))) else (some (strOfNums xs))) else (some (strOfNums xs))
def spec_DrawReadTitles.f (k : Nat) (l0 : List Int) : Option ByteArray := (spec_l1New.f k l0).bind fun c => ((spec_l12DrawTitles.f k c.1 c.2.1 c.2.2).bind fun t => ((spec_ShowTitles.f k t.1).bind fun s => (if s.size < 140737488355328 then ((spec_l1Below.f c.1 t.2.1 t.2.2 3).bind fun n => (spec_DrawReadTitles.l0 k c.1 n.2.1 n.2.2 (bytesOf s) n.1)) else none)))
theorem spec_DrawReadTitles.mono_l : ∀ k y0 y1 y2 y3 y4, LeO (spec_DrawReadTitles.l0 k y0 y1 y2 y3 y4) (spec_DrawReadTitles.l0 (k + 1) y0 y1 y2 y3 y4)
 | 0 => fun _ _ _ _ _ r h => by simp [spec_DrawReadTitles.l0] at h
 | k + 1 => by
  have ih:=spec_DrawReadTitles.mono_l k
  intro y0 y1 y2 y3 y4
  unfold spec_DrawReadTitles.l0
  repeat' first|(with_reducible first|exact ih _ _ _ _ _|exact LeO.refl _|exact LeO.none _|refine LeO.ite ?_ ?_|refine LeO.bind ?_ (fun _=>?_))|exact ih _ _ _ _ _|exact LeO.none _|refine LeO.ite ?_ ?_|refine LeO.bind ?_ (fun _=>?_)
theorem spec_DrawReadTitles.mono : ∀ a0 k, LeO (spec_DrawReadTitles.f k a0) (spec_DrawReadTitles.f (k + 1) a0) := by
 intro a0 k
 have ih:=spec_DrawReadTitles.mono_l k
 unfold spec_DrawReadTitles.f
 repeat' first|(with_reducible first|exact ih _ _ _ _ _|exact spec_l1New.mono _ _|exact spec_l12DrawTitles.mono _ _ _ _|exact spec_ShowTitles.mono _ _|exact LeO.refl _|exact LeO.none _|refine LeO.ite ?_ ?_|refine LeO.bind ?_ (fun _=>?_))|exact ih _ _ _ _ _|exact spec_l1New.mono _ _|exact spec_l12DrawTitles.mono _ _ _ _|exact spec_ShowTitles.mono _ _|exact LeO.none _|refine LeO.ite ?_ ?_|refine LeO.bind ?_ (fun _=>?_)
theorem RB.ne {w0 W : World} {B c g go : Nat} {xs : List Int} {f0 : List Int} {f1 f2 : Int} (h : RB W B (some ⟨go, 0, none⟩) c xs) (hI : IsS76 w0 W g f0 f1 f2) (hp : 0 < xs.length) : g ≠ go := by
 obtain⟨g',cur,fz,h1,h2,h3,_⟩:=h.row hp
 obtain rfl:go=g':=by simpa using h1
 exact hI.ne_blk h3 (by decide)
abbrev litO : Obj := .cells #[.int .u8 48, .int .u8 49, .int .u8 50, .int .u8 57, .int .u8 58, .int .u8 44, .int .u8 45, .int .u8 62, .int .u8 10, .int .u8 32, .int .u8 120, .int .u8 127] 5
theorem lit_conv (W : World) : ∃ W34, (convert 36 36 (.slice (some ⟨W.heap.size, 0, none⟩) 12 12)).run Tryd.prog (W.alloc (.cells #[.int .u8 48, .int .u8 49, .int .u8 50, .int .u8 57, .int .u8 58, .int .u8 44, .int .u8 45, .int .u8 62, .int .u8 10, .int .u8 32, .int .u8 120, .int .u8 127] 5)) = .ok (.slice (some ⟨W.heap.size, 0, none⟩) 12 12) W34 ∧ RB W34 0 (some ⟨W.heap.size, 0, none⟩) 12 litR ∧ Below W.heap.size W W34 := by
 have hsh:(W.alloc litO).shape? W.heap.size=some (5,12):=by
  simp [World.shape?,World.alloc,litO,-World.alloc_eq]
 have hh:((W.alloc litO).freeze ⟨W.heap.size,12,none⟩ 1).heap[W.heap.size]? = some (Obj.cells #[.int .u8 48,.int .u8 49,.int .u8 50,.int .u8 57,.int .u8 58,.int .u8 44,.int .u8 45,.int .u8 62,.int .u8 10,.int .u8 32,.int .u8 120,.int .u8 127] 5 (12,13)):=by
  simp [World.freeze,World.alloc,litO,-World.alloc_eq,Array.getElem?_modify]
  rw [Array.getElem_modify_self]
  simp
 refine⟨(W.alloc litO).freeze ⟨W.heap.size,12,none⟩ 1,?_,⟨by decide,by decide,by decide,fun _=>⟨_,_,_,rfl,Nat.zero_le _,hh,Or.inr (by decide),by decide,rfl⟩⟩,rfl,rfl,rfl,by simp [World.freeze,World.alloc,-World.alloc_eq],fun i hi=>?_⟩
 ·simp [convert,run_underlying Tryd.underlying36,run_underlying Tryd.underlying5,markStringish,hsh,Result.andThen]
 ·have h1:W.heap.size≠i:=by omega
  simp [World.freeze,World.alloc,-World.alloc_eq,Array.getElem?_modify,Array.getElem?_push,h1,Ne.symm h1]
theorem add_zero_ (g m : Nat) : (⟨g, 0, none⟩ : Addr).add (m * 1) = ⟨g, m, none⟩ := by
 unfold Addr.add
 split <;> simp_all
theorem litR_byte (u : Int) : 0 ≤ rd litR u ∧ rd litR u ≤ 255 := by
 have key:∀ x ∈ litR,0≤x∧x≤255:=by decide
 unfold rd
 rcases Nat.lt_or_ge u.toNat litR.length with h|h
 ·rw [List.getD_eq_getElem?_getD,List.getElem?_eq_getElem h]
  exact key _ (List.getElem_mem h)
 ·rw [List.getD_eq_getElem?_getD,List.getElem?_eq_none h]
  decide
def spec_DrawReadTitles.T13 : Bool × List (List Nat × List Nat) := (true, [([], []), ([], []), ([], []), ([1, 2], [1, 2]), ([0, 3], [0, 3]), ([], []), ([], []), ([6], [6]), ([5, 7], [5, 7]), ([4, 8, 4], [4, 8]), ([9, 9, 0, 1, 2, 3, 4, 5, 6, 7, 8, 9], [1, 5, 9])])
def spec_DrawReadTitles.B13 : List Nat := [0, 0, 0, 6, 15, 0, 0, 64, 224, 511, 1023]
theorem spec_DrawReadTitles.tab13 : rtab .any (opsOf Tryd.f18 13) = spec_DrawReadTitles.T13 := by kernel_rfl
theorem spec_DrawReadTitles.bits13 : waitsOk spec_DrawReadTitles.T13.2 spec_DrawReadTitles.B13 = true := by kernel_rfl
def spec_DrawReadTitles.T15 : Bool × List (List Nat × List Nat) := (true, [([], []), ([], []), ([], []), ([1, 2], [1, 2]), ([0, 3], [0, 3]), ([], []), ([4, 5, 4], [4, 5]), ([], []), ([], []), ([7, 8], [7, 8]), ([6, 9, 6], [6, 9]), ([10, 10, 0, 1, 2, 3, 4, 5, 6, 7, 8, 9, 10], [1, 7, 10])])
def spec_DrawReadTitles.B15 : List Nat := [0, 0, 0, 6, 15, 0, 63, 0, 0, 384, 1023, 2047]
theorem spec_DrawReadTitles.tab15 : rtab .any (opsOf Tryd.f18 15) = spec_DrawReadTitles.T15 := by kernel_rfl
theorem spec_DrawReadTitles.bits15 : waitsOk spec_DrawReadTitles.T15.2 spec_DrawReadTitles.B15 = true := by kernel_rfl
set_option maxHeartbeats 8000000 in
set_option maxRecDepth 100000 in
theorem spec_DrawReadTitles.calls (k : Nat) (A0 : Option Addr) (c0 : Nat) (l0 : List Int) (r : ByteArray) (w : World) (hr0 : Kd.C (Kd.int .u8) w A0 l0.length l0) (hc0 : l0.length ≤ c0) (h : spec_DrawReadTitles.f k l0 = some r) :
  Calls Tryd.prog 18 #[.slice A0 l0.length c0] w fun e w'=>e=.returned (.string r)∧Below w.heap.size w w':=by
 have HR0:=Qa hr0
 have HC0:=Qa hc0
 clear hr0 hc0
 have HB:=Qa (Below.refl w.heap.size w)
 unfold spec_DrawReadTitles.f at h
 obtain⟨⟨c1,c2,c3⟩,a1,h⟩:=Option.bind_eq_some_iff.mp h
 obtain⟨⟨ts,t2,t3⟩,a2,h⟩:=Option.bind_eq_some_iff.mp h
 obtain⟨s,a3,h⟩:=Option.bind_eq_some_iff.mp h
 by_cases hsz:s.size < 140737488355328
 case neg=>
  rw [if_neg hsz] at h
  cases h
 rw [if_pos hsz] at h
 obtain⟨⟨n0,n2,n3⟩,a4,h⟩:=Option.bind_eq_some_iff.mp h
 replace h:spec_DrawReadTitles.l0 k c1 n2 n3 (bytesOf s) n0=some r:=h
 have A1:=Qa a1
 have A2:=Qa (show spec_l12DrawTitles.f k c1 c2 c3=some (ts,t2,t3) from a2)
 have A3:=Qa (show spec_ShowTitles.f k ts=some s from a3)
 have A4:=Qa (show spec_l1Below.f c1 t2 t3 3=some (n0,n2,n3) from a4)
 have HSZ:=Qa hsz
 have H':=Qa h
 have HLS:=Qa (bytesOf_length s)
 clear a1 a2 a3 a4 hsz h
 go_enter Tryd.func18,Tryd.ntmps18
 go_wp2_with (first|((with_reducible refine gate_callee (f:=36) rfl ?_);refine goesL_ (some 8) rfl rfl Tryd.func36 (by kernel_rfl) rfl #[.slice A0 l0.length c0] rfl (by(try simp only [List.map_toArray,List.map_cons,List.map_nil]);first|done|rfl|(simp only [List.length_drop,List.length_take];rfl)) ?_;(with_reducible refine(spec_l1New.calls k _ _ l0 c1 c2 c3 w _ ?side1 ?side2 ?side3 A1.out).mono ?_);(case side1=>repeat(first|(with_reducible first|exact HB.out|apply below_alloc|apply pw_below_drewN|apply below_drew1)|exact HB.out));(case side2=>exact HR0.out);(case side3=>exact HC0.out);rintro e wn_ ⟨g,rfl,hi,hb,hb2⟩;refine⟨_,rfl,?_⟩;have qb:=Qa (hb);have qc:=Qa (hi);clear HB hb hi hb2;have HB:=qb;have HI:=qc;clear qb qc)|((with_reducible refine gate_callee (f:=37) rfl ?_);refine goesL_ (some 10) rfl rfl Tryd.func37 (by kernel_rfl) rfl #[.pointer (some ⟨g,0,none⟩)] rfl (by(try simp only [List.map_toArray,List.map_cons,List.map_nil]);first|done|rfl|(simp only [List.length_drop,List.length_take];rfl)) ?_;(with_reducible refine(spec_l12DrawTitles.calls k g c1 c2 c3 ts t2 t3 w _ ?side1 ?side2 A2.out).mono ?_);(case side1=>repeat(first|(with_reducible first|exact HI.out|apply IsS76.alloc|apply IsS76.drewN|apply IsS76.drew)|exact HI.out));(case side2=>repeat(first|(with_reducible first|exact HB.out|apply below_alloc|apply pw_below_drewN|apply below_drew1|refine below_set ?_ (IsS76.ge HI.out))|exact HB.out));rintro e wn_ ⟨vt_,rfl,ho0,hi,hb,hk⟩;refine⟨_,rfl,?_⟩;obtain⟨At,ct,et⟩:=Kd.R_slice ho0;subst et;have qb:=Qa (Kd.R_reads' ho0);have qc:=Qa (hb);have qd:=Qa (hi);clear HB HI hb hi hk ho0;have HT:=qb;have HB:=qc;have HI:=qd;clear qb qc qd)|((with_reducible refine gate_callee (f:=7) rfl ?_);refine goesL_ (some 11) rfl rfl Tryd.func7 (by kernel_rfl) rfl #[.slice At ts.length ct] rfl (by(try simp only [List.map_toArray,List.map_cons,List.map_nil]);first|done|rfl|(simp only [List.length_drop,List.length_take];rfl)) ?_;(with_reducible refine(spec_ShowTitles.calls k At ct ts s _ ?side1 ?side2 A3.out).mono ?_);(case side1=>exact HT.out.2.2);(case side2=>exact HT.out.2.1);rintro e wn_ ⟨rfl,hb⟩;refine⟨_,rfl,?_⟩;have qb:=Qa (IsS76.below (by repeat(first|(with_reducible first|exact HI.out|apply IsS76.alloc|apply IsS76.drewN|apply IsS76.drew)|exact HI.out)) hb);have qc:=Qa (below_step (by repeat(first|(with_reducible first|exact HB.out|apply below_alloc|apply pw_below_drewN|apply below_drew1|refine below_set ?_ (IsS76.ge HI.out))|exact HB.out)) hb);clear HB HI hb HT;have HI:=qb;have HB:=qc;clear qb qc)|((with_reducible refine gate_dst (N:=12) rfl ?_);refine conv_event rfl (.tmp 11) 9 36 5 rfl Tryd.underlying9 Tryd.underlying36 Tryd.underlying5 s rfl ?_;have qb:=Qa (RB.conv (below_size (by repeat(first|(with_reducible first|exact HB.out|apply below_alloc|apply pw_below_drewN|apply below_drew1|refine below_set ?_ (IsS76.ge HI.out))|exact HB.out))) s HSZ.out);have qc:=Qa (IsS76.below (by repeat(first|(with_reducible first|exact HI.out|apply IsS76.alloc|apply IsS76.drewN|apply IsS76.drew)|exact HI.out)) (below_bytes _ s));have qd:=Qa (below_step (by repeat(first|(with_reducible first|exact HB.out|apply below_alloc|apply pw_below_drewN|apply below_drew1|refine below_set ?_ (IsS76.ge HI.out))|exact HB.out)) (below_bytes _ s));clear HB HI;have HRB:=qb;have HI:=qc;have HB:=qd;clear qb qc qd)|((with_reducible refine gate_callee (f:=38) rfl ?_);refine goesL_ (some 14) rfl rfl Tryd.func38 (by kernel_rfl) rfl #[.pointer (some ⟨g,0,none⟩),.int .i64 3] rfl (by(try simp only [List.map_toArray,List.map_cons,List.map_nil]);first|done|rfl|(simp only [List.length_drop,List.length_take];rfl)) ?_;(with_reducible refine(spec_l1Below.calls g c1 t2 t3 3 n0 n2 n3 w _ ?side1 ?side2 A4.out).mono ?_);(case side1=>repeat(first|(with_reducible first|exact HI.out|apply IsS76.alloc|apply IsS76.drewN|apply IsS76.drew)|exact HI.out));(case side2=>repeat(first|(with_reducible first|exact HB.out|apply below_alloc|apply pw_below_drewN|apply below_drew1|refine below_set ?_ (IsS76.ge HI.out))|exact HB.out));rintro e wn_ ⟨rfl,hi,hb,hk⟩;refine⟨_,rfl,?_⟩;have qb:=Qa (RB.cur HRB.out HI.out hk);have qc:=Qa (hb);have qd:=Qa (hi);clear HRB HB HI hb hi hk;have HRB:=qb;have HB:=qc;have HI:=qd;clear qb qc qd))
 go_loopg [4,5] k (fun kq v4 v5 w'=>∃ (xs:List Int) (A:Option Addr) (c:Nat) (n s1 s2:Int),v4=.slice A xs.length c∧v5=.int .i64 n∧Aside0 (spec_DrawReadTitles.l0 kq c1 s1 s2 xs n=some r)∧Aside0 (kq≤k)∧Aside0 (RB w' w.heap.size A c xs)∧Aside0 (IsS76 w w' g c1 s1 s2)∧Aside0 (Below w.heap.size w w'))
 case atStart=>exact⟨bytesOf s,_,_,n0,n2,n3,by rw [HLS.out],rfl,H',⟨Nat.le_refl _⟩,HRB,HI,HB⟩
 case round=>
  clear H' HRB HI HB
  obtain⟨xs,A,c,n,s1,s2,rfl,rfl,HA,HK1,HRB,HI,HB⟩:=hrel
  cases gk with
  | zero => exact absurd HA.out (by simp [spec_DrawReadTitles.l0])
  | succ k1 =>
   have H:=HA.out
   clear HA
   simp only [spec_DrawReadTitles.l0] at H
   by_cases hn:n > 0
   ·rw [if_pos hn] at H
    have hnb:decide (n > 0)=true:=decide_eq_true hn
    have hnb2:decide (0 < n)=true:=decide_eq_true hn
    by_cases hx:(xs.length:Int) > 0
    ·rw [if_pos hx] at H
     have hxb:decide ((xs.length:Int) > 0)=true:=decide_eq_true hx
     have hxb2:decide (0 < (xs.length:Int))=true:=decide_eq_true hx
     have hxb3:decide (0 < xs.length)=true:=decide_eq_true (by omega)
     obtain⟨⟨p,p2,p3⟩,b1,H⟩:=Option.bind_eq_some_iff.mp H
     obtain⟨⟨q,q2,q3⟩,b2,H⟩:=Option.bind_eq_some_iff.mp H
     have B1:=Qa (show spec_l1Below.f c1 s1 s2 (xs.length:Int)=some (p,p2,p3) from b1)
     have B2:=Qa (show spec_l1Below.f c1 p2 p3 4=some (q,q2,q3) from b2)
     clear b1 b2
     dsimp only at H
     by_cases hp0:0≤p
     case neg=>
      rw [if_neg hp0] at H
      cases H
     rw [if_pos hp0] at H
     by_cases hp1:p < (xs.length:Int)
     case neg=>
      rw [if_neg hp1] at H
      cases H
     rw [if_pos hp1] at H
     by_cases hlen:xs.length < 140737488355300
     case neg=>
      rw [if_neg hlen] at H
      cases H
     rw [if_pos hlen] at H
     obtain⟨go,rfl,hgo,hcells⟩:=HRB.out.cell (by omega)
     have HGO:=Qa hgo
     clear hgo hcells
     have HP0:=Qa hp0
     have qf:=Qa hp1
     have HLEN:=Qa hlen
     have HX:=Qa hx
     clear hn hx hlen
     have p0e:(0≤p)=True:=eq_true hp0
     have p1e:(p < (xs.length:Int))=True:=eq_true hp1
     clear hp0 hp1
     by_cases hq0:q=0
     ·subst hq0
      rw [if_pos rfl] at H
      obtain⟨⟨u,u2,u3⟩,b3,H⟩:=Option.bind_eq_some_iff.mp H
      have B3:=Qa (show spec_l1Below.f c1 q2 q3 12=some (u,u2,u3) from b3)
      clear b3
      dsimp only at H
      by_cases hu0:0≤u
      case neg=>
       rw [if_neg hu0] at H
       cases H
      rw [if_pos hu0] at H
      by_cases hu1:u < 12
      case neg=>
       rw [if_neg hu1] at H
       cases H
      rw [if_pos hu1] at H
      have H':=Qa H
      have HU0:=Qa hu0
      have HU1:=Qa (show u < (litR.length:Int) from hu1)
      have u0e:(0≤u)=True:=eq_true hu0
      have u1e:(u < 12)=True:=eq_true hu1
      have u2e:(u < (litR.length:Int))=True:=eq_true hu1
      clear H hu0 hu1
      go_wp2_with (first|((with_reducible refine gate_callee (f:=38) rfl ?_);refine goesL_ (some 27) rfl rfl Tryd.func38 (by kernel_rfl) rfl #[.pointer (some ⟨g,0,none⟩),.int .i64 (xs.length:Int)] rfl (by(try simp only [List.map_toArray,List.map_cons,List.map_nil]);first|done|rfl|(simp only [List.length_drop,List.length_take];rfl)) ?_;(with_reducible refine(spec_l1Below.calls g c1 s1 s2 (xs.length:Int) p p2 p3 w _ ?side1 ?side2 B1.out).mono ?_);(case side1=>repeat(first|(with_reducible first|exact HI.out|apply IsS76.alloc|apply IsS76.drewN|apply IsS76.drew)|exact HI.out));(case side2=>repeat(first|(with_reducible first|exact HB.out|apply below_alloc|apply pw_below_drewN|apply below_drew1|refine below_set ?_ (IsS76.ge HI.out))|exact HB.out));rintro e wn_ ⟨rfl,hi,hb,hk⟩;refine⟨_,rfl,?_⟩;have qb:=Qa (RB.cur HRB.out HI.out hk);have qc:=Qa (hb);have qd:=Qa (hi);clear HRB HB HI hb hi hk;have HRB:=qb;have HB:=qc;have HI:=qd;clear qb qc qd)|((with_reducible refine gate_callee (f:=38) rfl ?_);refine goesL_ (some 29) rfl rfl Tryd.func38 (by kernel_rfl) rfl #[.pointer (some ⟨g,0,none⟩),.int .i64 4] rfl (by(try simp only [List.map_toArray,List.map_cons,List.map_nil]);first|done|rfl|(simp only [List.length_drop,List.length_take];rfl)) ?_;(with_reducible refine(spec_l1Below.calls g c1 p2 p3 4 0 q2 q3 w _ ?side1 ?side2 B2.out).mono ?_);(case side1=>repeat(first|(with_reducible first|exact HI.out|apply IsS76.alloc|apply IsS76.drewN|apply IsS76.drew)|exact HI.out));(case side2=>repeat(first|(with_reducible first|exact HB.out|apply below_alloc|apply pw_below_drewN|apply below_drew1|refine below_set ?_ (IsS76.ge HI.out))|exact HB.out));rintro e wr ⟨rfl,hi,hb,hk⟩;refine⟨_,rfl,?_⟩;have qb:=Qa (RB.cur HRB.out HI.out hk);have qc:=Qa (hb);have qd:=Qa (hi);clear HRB HB HI hb hi hk;have HRB:=qb;have HB:=qc;have HI:=qd;clear qb qc qd;obtain⟨W34,hcv34_,hrb34_,hbl34_⟩:=lit_conv wr;have qb:=Qa (hrb34_);have qc:=Qa (RB.below HRB.out hbl34_);have qd:=Qa (IsS76.below HI.out hbl34_);have n3_:=Qa (below_step HB.out hbl34_);clear HRB HI HB hbl34_ hrb34_;have HL:=qb;have HRB:=qc;have HI:=qd;have HB:=n3_;clear qb qc qd n3_)|((with_reducible refine gate_callee (f:=38) rfl ?_);refine goesL_ (some 37) rfl rfl Tryd.func38 (by kernel_rfl) rfl #[.pointer (some ⟨g,0,none⟩),.int .i64 12] rfl (by(try simp only [List.map_toArray,List.map_cons,List.map_nil]);first|done|rfl|(simp only [List.length_drop,List.length_take];rfl)) ?_;(with_reducible refine(spec_l1Below.calls g c1 q2 q3 12 u u2 u3 w _ ?side1 ?side2 B3.out).mono ?_);(case side1=>repeat(first|(with_reducible first|exact HI.out|apply IsS76.alloc|apply IsS76.drewN|apply IsS76.drew)|exact HI.out));(case side2=>repeat(first|(with_reducible first|exact HB.out|apply below_alloc|apply pw_below_drewN|apply below_drew1|refine below_set ?_ (IsS76.ge HI.out))|exact HB.out));rintro e ws ⟨rfl,hi,hb,hk⟩;refine⟨_,rfl,?_⟩;have qb:=Qa (RB.cur HL.out HI.out hk);have qc:=Qa (RB.cur HRB.out HI.out hk);have qd:=Qa (hb);have n3_:=Qa (hi);clear HL HRB HB HI hb hi hk;have HL:=qb;have HRB:=qc;have HB:=qd;have HI:=n3_;clear qb qc qd n3_;obtain⟨gl,egl_,_,hl_⟩:=HL.out.cell (by decide);obtain rfl:wr.heap.size=gl:=(by simpa using egl_);have hlu_:=(hl_ u HU0.out HU1.out).1;clear hl_;obtain⟨go2_,ego_,_,hb_⟩:=HRB.out.cell (by have h_:=HX.out;omega);obtain rfl:go=go2_:=(by simpa using ego_);obtain⟨hbc_,hbf_⟩:=hb_ p HP0.out qf.out;clear hb_))
      go_wp2
      go_roundg k1
      case measure=>have:=HK1.out;omega
      case rel=>exact⟨xs.set p.toNat (rd litR u),_,_,wrap64 (n - 1),u2,u3,by rw [List.length_set],rfl,H',⟨by have:=HK1.out;omega⟩,⟨RB.set HRB.out p (rd litR u) HP0.out qf.out (litR_byte u)⟩,⟨IsS76.far (p:=⟨go,p.toNat,none⟩) HI.out (RB.ne HRB.out HI.out (by have h_:=HX.out;omega)) (.int .u8 (rd litR u))⟩,⟨below_set HB.out HGO.out⟩⟩
     rw [if_neg hq0] at H
     by_cases hq1:q=1
     ·subst hq1
      rw [if_pos rfl] at H
      have H':=Qa H
      clear H
      have hle_:=HRB.out.le
      have qe:(xs.take p.toNat).length=p.toNat:=by rw [List.length_take];have h_:=HP0.out;have h2_:=qf.out;omega
      have hp2_:p.toNat≤xs.length:=by have h_:=HP0.out;have h2_:=qf.out;omega
      obtain⟨i5,hi5,_⟩:=Option.map_eq_some_iff.1 info5
      have hcut1:=cut_to (P:=Tryd.prog) 36 5 .i64 Tryd.underlying36 hi5 (some ⟨go,0,none⟩) xs.length c p HP0.out (Int.le_of_lt qf.out) hle_
      clear hi5
      go_wp2_with (first|((with_reducible refine gate_callee (f:=38) rfl ?_);refine goesL_ (some 27) rfl rfl Tryd.func38 (by kernel_rfl) rfl #[.pointer (some ⟨g,0,none⟩),.int .i64 (xs.length:Int)] rfl (by(try simp only [List.map_toArray,List.map_cons,List.map_nil]);first|done|rfl|(simp only [List.length_drop,List.length_take];rfl)) ?_;(with_reducible refine(spec_l1Below.calls g c1 s1 s2 (xs.length:Int) p p2 p3 w _ ?side1 ?side2 B1.out).mono ?_);(case side1=>repeat(first|(with_reducible first|exact HI.out|apply IsS76.alloc|apply IsS76.drewN|apply IsS76.drew)|exact HI.out));(case side2=>repeat(first|(with_reducible first|exact HB.out|apply below_alloc|apply pw_below_drewN|apply below_drew1|refine below_set ?_ (IsS76.ge HI.out))|exact HB.out));rintro e wn_ ⟨rfl,hi,hb,hk⟩;refine⟨_,rfl,?_⟩;have qb:=Qa (RB.cur HRB.out HI.out hk);have qc:=Qa (hb);have qd:=Qa (hi);clear HRB HB HI hb hi hk;have HRB:=qb;have HB:=qc;have HI:=qd;clear qb qc qd)|((with_reducible refine gate_callee (f:=38) rfl ?_);refine goesL_ (some 29) rfl rfl Tryd.func38 (by kernel_rfl) rfl #[.pointer (some ⟨g,0,none⟩),.int .i64 4] rfl (by(try simp only [List.map_toArray,List.map_cons,List.map_nil]);first|done|rfl|(simp only [List.length_drop,List.length_take];rfl)) ?_;(with_reducible refine(spec_l1Below.calls g c1 p2 p3 4 1 q2 q3 w _ ?side1 ?side2 B2.out).mono ?_);(case side1=>repeat(first|(with_reducible first|exact HI.out|apply IsS76.alloc|apply IsS76.drewN|apply IsS76.drew)|exact HI.out));(case side2=>repeat(first|(with_reducible first|exact HB.out|apply below_alloc|apply pw_below_drewN|apply below_drew1|refine below_set ?_ (IsS76.ge HI.out))|exact HB.out));rintro e wr ⟨rfl,hi,hb,hk⟩;refine⟨_,rfl,?_⟩;have qb:=Qa (RB.cur HRB.out HI.out hk);have qc:=Qa (hb);have qd:=Qa (hi);clear HRB HB HI hb hi hk;have HRB:=qb;have HB:=qc;have HI:=qd;clear qb qc qd))
      go_wp2
      go_roundg k1
      case measure=>have:=HK1.out;omega
      case rel=>exact⟨xs.take p.toNat,_,_,wrap64 (n - 1),q2,q3,by rw [qe],rfl,H',⟨by have:=HK1.out;omega⟩,⟨RB.take HRB.out p.toNat hp2_⟩,HI,HB⟩
     rw [if_neg hq1] at H
     by_cases hq2:q=2
     ·subst hq2
      rw [if_pos rfl] at H
      have H':=Qa H
      clear H
      have hle_:=HRB.out.le
      have qe:(xs.take p.toNat).length=p.toNat:=by rw [List.length_take];have h_:=HP0.out;have h2_:=qf.out;omega
      have hp2_:p.toNat≤xs.length:=by have h_:=HP0.out;have h2_:=qf.out;omega
      obtain⟨i5,hi5,_⟩:=Option.map_eq_some_iff.1 info5
      have hcut1:=cut_to (P:=Tryd.prog) 36 5 .i64 Tryd.underlying36 hi5 (some ⟨go,0,none⟩) xs.length c p HP0.out (Int.le_of_lt qf.out) hle_
      have Hi5:=Qa hi5
      clear hi5
      go_wp2_with (first|((with_reducible refine gate_callee (f:=38) rfl ?_);refine goesL_ (some 27) rfl rfl Tryd.func38 (by kernel_rfl) rfl #[.pointer (some ⟨g,0,none⟩),.int .i64 (xs.length:Int)] rfl (by(try simp only [List.map_toArray,List.map_cons,List.map_nil]);first|done|rfl|(simp only [List.length_drop,List.length_take];rfl)) ?_;(with_reducible refine(spec_l1Below.calls g c1 s1 s2 (xs.length:Int) p p2 p3 w _ ?side1 ?side2 B1.out).mono ?_);(case side1=>repeat(first|(with_reducible first|exact HI.out|apply IsS76.alloc|apply IsS76.drewN|apply IsS76.drew)|exact HI.out));(case side2=>repeat(first|(with_reducible first|exact HB.out|apply below_alloc|apply pw_below_drewN|apply below_drew1|refine below_set ?_ (IsS76.ge HI.out))|exact HB.out));rintro e wn_ ⟨rfl,hi,hb,hk⟩;refine⟨_,rfl,?_⟩;have qb:=Qa (RB.cur HRB.out HI.out hk);have qc:=Qa (hb);have qd:=Qa (hi);clear HRB HB HI hb hi hk;have HRB:=qb;have HB:=qc;have HI:=qd;clear qb qc qd)|((with_reducible refine gate_callee (f:=38) rfl ?_);refine goesL_ (some 29) rfl rfl Tryd.func38 (by kernel_rfl) rfl #[.pointer (some ⟨g,0,none⟩),.int .i64 4] rfl (by(try simp only [List.map_toArray,List.map_cons,List.map_nil]);first|done|rfl|(simp only [List.length_drop,List.length_take];rfl)) ?_;(with_reducible refine(spec_l1Below.calls g c1 p2 p3 4 2 q2 q3 w _ ?side1 ?side2 B2.out).mono ?_);(case side1=>repeat(first|(with_reducible first|exact HI.out|apply IsS76.alloc|apply IsS76.drewN|apply IsS76.drew)|exact HI.out));(case side2=>repeat(first|(with_reducible first|exact HB.out|apply below_alloc|apply pw_below_drewN|apply below_drew1|refine below_set ?_ (IsS76.ge HI.out))|exact HB.out));rintro e wr ⟨rfl,hi,hb,hk⟩;refine⟨_,rfl,?_⟩;have qb:=Qa (RB.cur HRB.out HI.out hk);have qc:=Qa (hb);have qd:=Qa (hi);clear HRB HB HI hb hi hk;have HRB:=qb;have HB:=qc;have HI:=qd;clear qb qc qd))
      have hi5:=Hi5.out
      have hC1:Kd.C (Kd.int .u8) wr (some ⟨go,0,none⟩) p.toNat (xs.take p.toNat):=by have h_:=Kd.C_take HRB.out.C hp2_;rw [qe] at h_;exact h_
      have hw1_:wrap64 (p+1)=p+1:=by unfold wrap64;have h_:=HP0.out;have h2_:=qf.out;have h3_:=HLEN.out;omega
      have hw2_:(wrap64 (p+1)).toNat=p.toNat+1:=by rw [hw1_];have h_:=HP0.out;omega
      have hs5:i5.size=1:=by have h_:=info_parts info5;obtain⟨i6,h6,_,h7,_⟩:=h_;rw [hi5] at h6;cases h6;exact h7
      have hcut2:=cut_from (P:=Tryd.prog) 36 5 .i64 Tryd.underlying36 hi5 1 hs5 (some ⟨go,0,none⟩) xs.length c (wrap64 (p+1)) (by rw [hw1_];have h_:=HP0.out;omega) (by rw [hw1_];have h2_:=qf.out;omega)
      rw [hw2_] at hcut2
      have hC2:Kd.C (Kd.int .u8) wr (if c=p.toNat+1 then (some ⟨go,0,none⟩:Option Addr) else some ⟨go,p.toNat+1,none⟩) (xs.length - (p.toNat+1)) (xs.drop (p.toNat+1)):=by have e_:=add_zero_ go (p.toNat+1);have h_:=Kd.C_drop (m:=p.toNat+1) HRB.out.C (by have h_:=HP0.out;have h2_:=qf.out;omega) hle_;rw [List.length_drop] at h_;rw [Option.map_some,show(⟨go,0,none⟩:Addr).add ((p.toNat+1)*(Kd.int .u8).sz)=⟨go,p.toNat+1,none⟩ from e_] at h_;exact h_
      rw [Option.map_some,add_zero_] at hcut2
      generalize (if c=p.toNat+1 then (some ⟨go,0,none⟩:Option Addr) else some ⟨go,p.toNat+1,none⟩)=A56 at hcut2 hC2
      clear hw1_ hw2_
      refine start_ (n:=11) (S:=fun w'=>Below wr.heap.size wr w') (ds:=[]) #[false,false,false,false,false,false,false,false,false,false,false] (by kernel_rfl) rfl rfl (below_drew (Below.refl _ _)) (fun qa=>?_)
      refine with_tabW spec_DrawReadTitles.tab13 spec_DrawReadTitles.bits13 (fun HT_ HW_=>?_)
      generalize wr.drew=wd_ at qa ⊢
      refine pz 1 49 (bm 11 2) HT_ ?_
      refine pz 2 50 (bm 11 6) HT_ ?_
      refine pz 3 51 (bm 11 14) HT_ ?_
      refine pz 5 53 (bm 11 46) HT_ ?_
      refine pz 6 54 (bm 11 110) HT_ ?_
      refine pz 7 55 (bm 11 238) HT_ ?_
      refine pz 8 56 (bm 11 494) HT_ ?_
      refine one_ (i:=0) (N:=some 48) (bm 11 495) rfl rfl (one_of HT_.out (by kernel_rfl)) (by decide) (fun K hK=>?_)
      refine Kd.R_lit_step (Kd.int .u8) _ 5 ?hg (N:=48) ?hd (xs:=([]:List Int)) (inner:=[]) (ok:=fun _=>True) (okp:=fun _=>True) ?hr ?hp (fun _ hk=>hk) trivial (Below.refl _ _) (Nat.le_refl _) (by simp) ?_;(case hd=>rfl);(case hg=>rfl);(case hr=>first|(go_simp;done)|(go_simp;rfl));(case hp=>exact(Reps.none _ _))
      intro v48 W2 ho hb hg_ hnew_
      clear hg_ hnew_
      have PB:=Kd.R_lower ho (Below.size qa)
      replace qa:=below_step qa hb
      clear hb ho
      refine hK.out _ _ qa (fun _=>?_)
      clear hK K
      refine norm_ (a':=?_) ?_ ?_;rotate_left;(show Act.put _ (some 48) _=_;simp only[pw];rfl)
      refine one_ (i:=4) (N:=some 52) (bm 11 511) rfl rfl (one_of HT_.out (by kernel_rfl)) (by decide) (fun K hK=>?_)
      refine Kd.R_append_rows_step (Kd.int .u8) (w0:=wr) wr.heap.size (by rfl) (.tmp 48) (.tmp 51) 36 5 (.int .u8 0) 1 rfl Tryd.underlying36 info5 rfl (by decide) (by decide) v48 ([]:List Int) (xs.take p.toNat) _ _ _ (fun _=>True) (fun _=>False) rfl rfl ?aO ?aR (fun _ _ h=>h) (fun _ h=>h.elim) ?aF qa (Below.size qa) ?aL ?_
      (case aR=>exact Kd.C_below hC1 qa)
      (case aF=>exact(fun k_ hk=>trivial))
      (case aO=>exact PB)
      (case aL=>simp only [List.length_append,List.length_nil,List.length_singleton,qe];have h_:=HLEN.out;have h2_:=qf.out;omega)
      intro v52 W2 ho hb hg hat
      rw [List.nil_append] at ho
      clear PB
      have PB:=ho
      replace qa:=hb
      clear hb hg hat ho
      refine hK.out _ _ qa (fun _=>?_)
      clear hK K
      refine norm_ (a':=?_) ?_ ?_;rotate_left;(show Act.put _ (some 52) _=_;simp only[pw];rfl)
      refine one_ (i:=9) (N:=some 57) (bm 11 1023) rfl rfl (one_of HT_.out (by kernel_rfl)) (by decide) (fun K hK=>?_)
      refine Kd.R_append_rows_step (Kd.int .u8) (w0:=wr) wr.heap.size (by rfl) (.tmp 52) (.tmp 56) 36 5 (.int .u8 0) 1 rfl Tryd.underlying36 info5 rfl (by decide) (by decide) v52 (xs.take p.toNat) (xs.drop (p.toNat+1)) _ _ _ (fun _=>True) (fun _=>False) rfl rfl ?aO ?aR (fun _ _ h=>h) (fun _ h=>h.elim) ?aF qa (Below.size qa) ?aL ?_
      (case aR=>exact Kd.C_below hC2 qa)
      (case aF=>exact(fun k_ hk=>trivial))
      (case aO=>exact PB)
      (case aL=>simp only [List.length_append,List.length_nil,List.length_singleton,qe];have h_:=HLEN.out;have h2_:=qf.out;omega)
      intro v57 W2 ho hb hg hat
      clear PB
      have PB:=ho
      replace qa:=hb
      clear hb hg hat ho
      refine hK.out _ _ qa (fun _=>?_)
      clear hK K
      refine norm_ (a':=?_) ?_ ?_;rotate_left;(show Act.put _ (some 57) _=_;simp only[pw];rfl)
      refine pz 10 4 (bm 11 2047) HT_ ?_
      refine done_ (done_of HT_.out (by kernel_rfl)) ?_
      clear HT_ HW_
      obtain⟨Af,cf,ef⟩:=Kd.R_slice PB
      subst ef
      have qb:=Qa (RB.of_R (Kd.R_lower PB (below_size HB.out)) (fun y hy=>by rcases List.mem_append.1 hy with hy|hy;exact HRB.out.byte y (List.mem_of_mem_take hy);exact HRB.out.byte y (List.mem_of_mem_drop hy)) (by rw [List.length_append,qe,List.length_drop];have h_:=HLEN.out;have h2_:=qf.out;omega))
      have qc:=Qa (below_step HB.out qa)
      have qd:=Qa (IsS76.below HI.out qa)
      clear HB HI HRB PB qa
      have HRB:=qb
      have HB:=qc
      have HI:=qd
      clear qb qc qd
      go_wp2
      go_roundg k1
      case measure=>have:=HK1.out;omega
      case rel=>exact⟨((xs.take p.toNat) ++ xs.drop (p.toNat+1)),_,_,wrap64 (n - 1),q2,q3,by first|rfl|(simp only [List.length_append,List.length_drop,List.length_singleton,List.length_cons,List.length_nil,qe];done),rfl,H',⟨by have:=HK1.out;omega⟩,HRB,HI,HB⟩
     rw [if_neg hq2] at H
     by_cases hq3:q=3
     ·subst hq3
      rw [if_pos rfl] at H
      have H':=Qa H
      clear H
      have hle_:=HRB.out.le
      have qe:(xs.take p.toNat).length=p.toNat:=by rw [List.length_take];have h_:=HP0.out;have h2_:=qf.out;omega
      have hp2_:p.toNat≤xs.length:=by have h_:=HP0.out;have h2_:=qf.out;omega
      obtain⟨i5,hi5,_⟩:=Option.map_eq_some_iff.1 info5
      have hcut1:=cut_to (P:=Tryd.prog) 36 5 .i64 Tryd.underlying36 hi5 (some ⟨go,0,none⟩) xs.length c p HP0.out (Int.le_of_lt qf.out) hle_
      have Hi5:=Qa hi5
      clear hi5
      go_wp2_with (first|((with_reducible refine gate_callee (f:=38) rfl ?_);refine goesL_ (some 27) rfl rfl Tryd.func38 (by kernel_rfl) rfl #[.pointer (some ⟨g,0,none⟩),.int .i64 (xs.length:Int)] rfl (by(try simp only [List.map_toArray,List.map_cons,List.map_nil]);first|done|rfl|(simp only [List.length_drop,List.length_take];rfl)) ?_;(with_reducible refine(spec_l1Below.calls g c1 s1 s2 (xs.length:Int) p p2 p3 w _ ?side1 ?side2 B1.out).mono ?_);(case side1=>repeat(first|(with_reducible first|exact HI.out|apply IsS76.alloc|apply IsS76.drewN|apply IsS76.drew)|exact HI.out));(case side2=>repeat(first|(with_reducible first|exact HB.out|apply below_alloc|apply pw_below_drewN|apply below_drew1|refine below_set ?_ (IsS76.ge HI.out))|exact HB.out));rintro e wn_ ⟨rfl,hi,hb,hk⟩;refine⟨_,rfl,?_⟩;have qb:=Qa (RB.cur HRB.out HI.out hk);have qc:=Qa (hb);have qd:=Qa (hi);clear HRB HB HI hb hi hk;have HRB:=qb;have HB:=qc;have HI:=qd;clear qb qc qd)|((with_reducible refine gate_callee (f:=38) rfl ?_);refine goesL_ (some 29) rfl rfl Tryd.func38 (by kernel_rfl) rfl #[.pointer (some ⟨g,0,none⟩),.int .i64 4] rfl (by(try simp only [List.map_toArray,List.map_cons,List.map_nil]);first|done|rfl|(simp only [List.length_drop,List.length_take];rfl)) ?_;(with_reducible refine(spec_l1Below.calls g c1 p2 p3 4 3 q2 q3 w _ ?side1 ?side2 B2.out).mono ?_);(case side1=>repeat(first|(with_reducible first|exact HI.out|apply IsS76.alloc|apply IsS76.drewN|apply IsS76.drew)|exact HI.out));(case side2=>repeat(first|(with_reducible first|exact HB.out|apply below_alloc|apply pw_below_drewN|apply below_drew1|refine below_set ?_ (IsS76.ge HI.out))|exact HB.out));rintro e wr ⟨rfl,hi,hb,hk⟩;refine⟨_,rfl,?_⟩;have qb:=Qa (RB.cur HRB.out HI.out hk);have qc:=Qa (hb);have qd:=Qa (hi);clear HRB HB HI hb hi hk;have HRB:=qb;have HB:=qc;have HI:=qd;clear qb qc qd))
      have hi5:=Hi5.out
      have hC1:Kd.C (Kd.int .u8) wr (some ⟨go,0,none⟩) p.toNat (xs.take p.toNat):=by have h_:=Kd.C_take HRB.out.C hp2_;rw [qe] at h_;exact h_
      have hs5:i5.size=1:=by have h_:=info_parts info5;obtain⟨i6,h6,_,h7,_⟩:=h_;rw [hi5] at h6;cases h6;exact h7
      have hcut3:=cut_from (P:=Tryd.prog) 36 5 .i64 Tryd.underlying36 hi5 1 hs5 (some ⟨go,0,none⟩) xs.length c p HP0.out (Int.le_of_lt qf.out)
      have hC3:Kd.C (Kd.int .u8) wr (if c=p.toNat then (some ⟨go,0,none⟩:Option Addr) else some ⟨go,p.toNat,none⟩) (xs.length - p.toNat) (xs.drop p.toNat):=by have e_:=add_zero_ go p.toNat;have h_:=Kd.C_drop (m:=p.toNat) HRB.out.C hp2_ hle_;rw [List.length_drop] at h_;rw [Option.map_some,show(⟨go,0,none⟩:Addr).add (p.toNat*(Kd.int .u8).sz)=⟨go,p.toNat,none⟩ from e_] at h_;exact h_
      rw [Option.map_some,add_zero_] at hcut3
      generalize (if c=p.toNat then (some ⟨go,0,none⟩:Option Addr) else some ⟨go,p.toNat,none⟩)=A69 at hcut3 hC3
      refine start_ (n:=12) (S:=fun w'=>Below wr.heap.size wr w') (ds:=[]) #[false,false,false,false,false,false,false,false,false,false,false,false] (by kernel_rfl) rfl rfl (below_drew (Below.refl _ _)) (fun qa=>?_)
      refine with_tabW spec_DrawReadTitles.tab15 spec_DrawReadTitles.bits15 (fun HT_ HW_=>?_)
      generalize wr.drew=wd_ at qa ⊢
      refine pz 1 61 (bm 12 2) HT_ ?_
      refine pz 2 62 (bm 12 6) HT_ ?_
      refine pz 3 63 (bm 12 14) HT_ ?_
      refine pz 7 67 (bm 12 142) HT_ ?_
      refine pz 8 68 (bm 12 398) HT_ ?_
      refine pz 9 69 (bm 12 910) HT_ ?_
      refine join_ (σ:=Value × Value × Value × Value × Value) 1 #[true,true,true,true,true,true,true,true,true,true,true,false] (fun s_=>[(60,s_.1),(64,s_.2.1),(65,s_.2.2.1),(66,s_.2.2.2.1),(70,s_.2.2.2.2)]) (fun s_ w'=>Below wr.heap.size wr w'∧(Kd.R (Kd.int .u8) 5 w' wr.heap.size (fun k_=>True) s_.2.2.2.2 (((xs.take p.toNat) ++ [10]) ++ (xs.drop p.toNat)))) ?_ ?_
      rotate_left
      ·intro hJ0_4_5_6_10
       refine join_ (σ:=Value × Value × Value × Value) 2 #[true,true,true,true,true,true,true,true,true,true,false,false] (fun s_=>[(60,s_.1),(64,s_.2.1),(65,s_.2.2.1),(66,s_.2.2.2)]) (fun s_ w'=>Below wr.heap.size wr w'∧(Kd.R (Kd.int .u8) 5 w' wr.heap.size (fun k_=>True) s_.2.2.2 ((xs.take p.toNat) ++ [10]))) ?_ ?_
       rotate_left
       ·intro hJ0_4_5_6
        refine join_ (σ:=Value × Value × Value) 3 #[true,true,true,true,true,true,false,true,true,true,false,false] (fun s_=>[(60,s_.1),(64,s_.2.1),(65,s_.2.2)]) (fun s_ w'=>Below wr.heap.size wr w'∧(Kd.R (Kd.int .u8) 5 w' wr.heap.size (fun k_=>some k_≠(s_.2.2:Value).ownBlock) s_.2.1 (xs.take p.toNat))∧(Kd.R (Kd.int .u8) 5 w' wr.heap.size (fun k_=>some k_≠(s_.2.1:Value).ownBlock) s_.2.2 [10])) ?_ ?_
        rotate_left
        ·intro hJ0_4_5
         refine join_ (σ:=Value × Value) 4 #[true,true,true,true,true,false,false,true,true,true,false,false] (fun s_=>[(60,s_.1),(64,s_.2)]) (fun s_ w'=>Below wr.heap.size wr w'∧(Kd.R (Kd.int .u8) 5 w' wr.heap.size (fun k_=>True) s_.2 (xs.take p.toNat))) ?_ ?_
         rotate_left
         ·intro hJ0_4
          refine join_ (σ:=Value × Value) 4 #[true,true,true,true,false,true,false,true,true,true,false,false] (fun s_=>[(60,s_.1),(65,s_.2)]) (fun s_ w'=>Below wr.heap.size wr w'∧(Kd.R (Kd.int .u8) 5 w' wr.heap.size (fun k_=>some k_≠(s_.2:Value).ownBlock) s_.1 ([]:List Int))∧(Kd.R (Kd.int .u8) 5 w' wr.heap.size (fun k_=>some k_≠(s_.1:Value).ownBlock) s_.2 [10])) ?_ ?_
          rotate_left
          ·intro hJ0_5
           refine join_ (σ:=Value) 5 #[true,true,true,true,false,false,false,true,true,true,false,false] (fun s_=>[(60,s_)]) (fun s_ w'=>Below wr.heap.size wr w'∧(Kd.R (Kd.int .u8) 5 w' wr.heap.size (fun k_=>True) s_ ([]:List Int))) ?_ ?_
           rotate_left
           ·intro hJ0
            refine join_ (σ:=Value) 5 #[false,true,true,true,false,true,false,true,true,true,false,false] (fun s_=>[(65,s_)]) (fun s_ w'=>Below wr.heap.size wr w'∧(Kd.R (Kd.int .u8) 5 w' wr.heap.size (fun k_=>True) s_ [10])) ?_ ?_
            rotate_left
            ·intro hJ5
             refine two_ (i:=0) (j:=5) (Ni:=some 60) (Nj:=some 65) (bm 12 911) (bm 12 942) rfl rfl rfl rfl (two_of HT_.out (by kernel_rfl)) (by decide) (by decide) (fun K hK=>?_) (fun K hK=>?_)
             ·skip
              refine Kd.R_lit_step (Kd.int .u8) _ 5 ?hg (N:=60) ?hd (xs:=([]:List Int)) (inner:=[]) (ok:=fun _=>True) (okp:=fun _=>True) ?hr ?hp (fun _ hk=>hk) trivial (Below.refl _ _) (Nat.le_refl _) (by simp) ?_;(case hd=>rfl);(case hg=>rfl);(case hr=>first|(go_simp;done)|(go_simp;rfl));(case hp=>exact(Reps.none _ _))
              intro qg W2 ho hb hg_ hnew_
              clear hg_ hnew_
              have PB:=Kd.R_lower ho (Below.size qa)
              replace qa:=below_step qa hb
              clear hb ho
              refine hK.out _ _ qa (fun _=>?_)
              clear hK K
              refine norm_ (a':=?_) ?_ ?_;rotate_left;(show Act.put _ (some 60) _=_;simp only[pw];rfl)
              exact norm_ (by first|(simp only [putAll,Act.put,List.setIfInBounds_toArray,List.set_cons_zero,List.set_cons_succ];done)|(simp only [putAll,Act.put,List.setIfInBounds_toArray,List.set_cons_zero,List.set_cons_succ];rfl)) (hJ0 qg _ ⟨qa,PB⟩)
             ·skip
              refine Kd.R_lit_step (Kd.int .u8) _ 5 ?hg (N:=65) ?hd (xs:=([10]:List Int)) (inner:=[.int .u8 10]) (ok:=fun _=>True) (okp:=fun _=>True) ?hr ?hp (fun _ hk=>hk) trivial (Below.refl _ _) (Nat.le_refl _) (by simp) ?_;(case hd=>rfl);(case hg=>rfl);(case hr=>first|(go_simp;done)|(go_simp;rfl));(case hp=>exact(Reps.one (show Kd.M (Kd.int .u8) _ _ _ 10 [.int .u8 10] from rfl) (Reps.none _ _)))
              intro v65 W2 ho hb hg_ hnew_
              clear hg_ hnew_
              have PL:=Kd.R_lower ho (Below.size qa)
              replace qa:=below_step qa hb
              clear hb ho
              refine hK.out _ _ qa (fun _=>?_)
              clear hK K
              refine norm_ (a':=?_) ?_ ?_;rotate_left;(show Act.put _ (some 65) _=_;simp only[pw];rfl)
              exact norm_ (by first|(simp only [putAll,Act.put,List.setIfInBounds_toArray,List.set_cons_zero,List.set_cons_succ];done)|(simp only [putAll,Act.put,List.setIfInBounds_toArray,List.set_cons_zero,List.set_cons_succ];rfl)) (hJ5 v65 _ ⟨qa,PL⟩)
            ·skip
             rintro v65 W ⟨qa,PL⟩
             replace PL:Kd.R (Kd.int .u8) 5 W wr.heap.size (fun k_=>True) v65 [10]:=PL
             replace qa:Below wr.heap.size wr W:=qa
             refine norm_ (a':=?_) ?_ ?_
             rotate_left
             ·simp only [putAll,Act.put,List.setIfInBounds_toArray,List.set_cons_zero,List.set_cons_succ]
              rfl
             refine one_ (i:=0) (N:=some 60) (bm 12 943) rfl rfl (one_of HT_.out (by kernel_rfl)) (by decide) (fun K hK=>?_)
             ·skip
              refine Kd.R_lit_step (Kd.int .u8) _ 5 ?hg (N:=60) ?hd (xs:=([]:List Int)) (inner:=[]) (ok:=fun _=>True) (okp:=fun _=>True) ?hr ?hp (fun _ hk=>hk) trivial (Below.refl _ _) (Nat.le_refl _) (by simp) ?_;(case hd=>rfl);(case hg=>rfl);(case hr=>first|(go_simp;done)|(go_simp;rfl));(case hp=>exact(Reps.none _ _))
              intro qg W2 ho hb hg_ hnew_
              clear hg_ hnew_
              have PB:=Kd.R_mono (Kd.R_lower (Kd.R_new' ho (Kd.R_lt PL)) (Below.size qa)) (fun _ h_=>h_.2)
              replace PL:=Kd.R_mono (Kd.R_elder' PL (Kd.R_base ho) hb) (fun _ h_=>h_.2)
              replace qa:=below_step qa hb
              clear hb ho
              refine hK.out _ _ qa (fun _=>?_)
              clear hK K
              refine norm_ (a':=?_) ?_ ?_;rotate_left;(show Act.put _ (some 60) _=_;simp only[pw];rfl)
              exact norm_ (by first|(simp only [putAll,Act.put,List.setIfInBounds_toArray,List.set_cons_zero,List.set_cons_succ];done)|(simp only [putAll,Act.put,List.setIfInBounds_toArray,List.set_cons_zero,List.set_cons_succ];rfl)) (hJ0_5 (qg,v65) _ ⟨qa,PB,PL⟩)
           ·skip
            rintro qg W ⟨qa,PB⟩
            replace PB:Kd.R (Kd.int .u8) 5 W wr.heap.size (fun k_=>True) qg ([]:List Int):=PB
            replace qa:Below wr.heap.size wr W:=qa
            refine norm_ (a':=?_) ?_ ?_
            rotate_left
            ·simp only [putAll,Act.put,List.setIfInBounds_toArray,List.set_cons_zero,List.set_cons_succ]
             rfl
            refine two_ (i:=4) (j:=5) (Ni:=some 64) (Nj:=some 65) (bm 12 927) (bm 12 943) rfl rfl rfl rfl (two_of HT_.out (by kernel_rfl)) (by decide) (by decide) (fun K hK=>?_) (fun K hK=>?_)
            ·skip
             refine Kd.R_append_rows_step (Kd.int .u8) (w0:=wr) wr.heap.size (by rfl) (.tmp 60) (.tmp 63) 36 5 (.int .u8 0) 1 rfl Tryd.underlying36 info5 rfl (by decide) (by decide) qg ([]:List Int) (xs.take p.toNat) _ _ _ (fun _=>True) (fun _=>False) rfl rfl ?aO ?aR (fun _ _ h=>h) (fun _ h=>h.elim) ?aF qa (Below.size qa) ?aL ?_
             (case aR=>exact Kd.C_below hC1 qa)
             (case aF=>exact(fun k_ hk=>trivial))
             (case aO=>exact PB)
             (case aL=>simp only [List.length_append,List.length_nil,List.length_singleton,qe];have h_:=HLEN.out;have h2_:=qf.out;omega)
             intro v64 W2 ho hb hg hat
             rw [List.nil_append] at ho
             clear PB
             have PB:=ho
             replace qa:=hb
             clear hb hg hat ho
             refine hK.out _ _ qa (fun _=>?_)
             clear hK K
             refine norm_ (a':=?_) ?_ ?_;rotate_left;(show Act.put _ (some 64) _=_;simp only[pw];rfl)
             exact norm_ (by first|(simp only [putAll,Act.put,List.setIfInBounds_toArray,List.set_cons_zero,List.set_cons_succ];done)|(simp only [putAll,Act.put,List.setIfInBounds_toArray,List.set_cons_zero,List.set_cons_succ];rfl)) (hJ0_4 (qg,v64) _ ⟨qa,PB⟩)
            ·skip
             refine Kd.R_lit_step (Kd.int .u8) _ 5 ?hg (N:=65) ?hd (xs:=([10]:List Int)) (inner:=[.int .u8 10]) (ok:=fun _=>True) (okp:=fun _=>True) ?hr ?hp (fun _ hk=>hk) trivial (Below.refl _ _) (Nat.le_refl _) (by simp) ?_;(case hd=>rfl);(case hg=>rfl);(case hr=>first|(go_simp;done)|(go_simp;rfl));(case hp=>exact(Reps.one (show Kd.M (Kd.int .u8) _ _ _ 10 [.int .u8 10] from rfl) (Reps.none _ _)))
             intro v65 W2 ho hb hg_ hnew_
             clear hg_ hnew_
             have PL:=Kd.R_mono (Kd.R_lower (Kd.R_new' ho (Kd.R_lt PB)) (Below.size qa)) (fun _ h_=>h_.2)
             replace PB:=Kd.R_mono (Kd.R_elder' PB (Kd.R_base ho) hb) (fun _ h_=>h_.2)
             replace qa:=below_step qa hb
             clear hb ho
             refine hK.out _ _ qa (fun _=>?_)
             clear hK K
             refine norm_ (a':=?_) ?_ ?_;rotate_left;(show Act.put _ (some 65) _=_;simp only[pw];rfl)
             exact norm_ (by first|(simp only [putAll,Act.put,List.setIfInBounds_toArray,List.set_cons_zero,List.set_cons_succ];done)|(simp only [putAll,Act.put,List.setIfInBounds_toArray,List.set_cons_zero,List.set_cons_succ];rfl)) (hJ0_5 (qg,v65) _ ⟨qa,PB,PL⟩)
          ·skip
           rintro⟨qg,v65⟩ W ⟨qa,PB,PL⟩
           replace PB:Kd.R (Kd.int .u8) 5 W wr.heap.size (fun k_=>some k_≠(v65:Value).ownBlock) qg ([]:List Int):=PB
           replace PL:Kd.R (Kd.int .u8) 5 W wr.heap.size (fun k_=>some k_≠(qg:Value).ownBlock) v65 [10]:=PL
           replace qa:Below wr.heap.size wr W:=qa
           refine norm_ (a':=?_) ?_ ?_
           rotate_left
           ·simp only [putAll,Act.put,List.setIfInBounds_toArray,List.set_cons_zero,List.set_cons_succ]
            rfl
           refine one_ (i:=4) (N:=some 64) (bm 12 959) rfl rfl (one_of HT_.out (by kernel_rfl)) (by decide) (fun K hK=>?_)
           ·skip
            refine Kd.R_append_rows_step (Kd.int .u8) (w0:=wr) wr.heap.size (by rfl) (.tmp 60) (.tmp 63) 36 5 (.int .u8 0) 1 rfl Tryd.underlying36 info5 rfl (by decide) (by decide) qg ([]:List Int) (xs.take p.toNat) _ _ _ (fun k_=>some k_≠(v65:Value).ownBlock) (fun _=>False) rfl rfl ?aO ?aR (fun _ _ h=>h) (fun _ h=>h.elim) ?aF qa (Below.size qa) ?aL ?_
            (case aR=>exact Kd.C_below hC1 qa)
            (case aF=>exact(fun k_ hk=>Kd.fresh' (Kd.R_lt PL) k_ hk))
            (case aO=>exact PB)
            (case aL=>simp only [List.length_append,List.length_nil,List.length_singleton,qe];have h_:=HLEN.out;have h2_:=qf.out;omega)
            intro v64 W2 ho hb hg hat
            replace PL:=Kd.R_mono (Kd.R_after (ok:=fun _=>True) (Kd.R_mono PL (fun _ h_=>⟨trivial,h_⟩)) hg hat) (fun _ h_=>h_.2)
            rw [List.nil_append] at ho
            clear PB
            have PB:=ho
            replace qa:=hb
            clear hb hg hat ho
            refine hK.out _ _ qa (fun _=>?_)
            clear hK K
            refine norm_ (a':=?_) ?_ ?_;rotate_left;(show Act.put _ (some 64) _=_;simp only[pw];rfl)
            exact norm_ (by first|(simp only [putAll,Act.put,List.setIfInBounds_toArray,List.set_cons_zero,List.set_cons_succ];done)|(simp only [putAll,Act.put,List.setIfInBounds_toArray,List.set_cons_zero,List.set_cons_succ];rfl)) (hJ0_4_5 (qg,v64,v65) _ ⟨qa,PB,PL⟩)
         ·skip
          rintro⟨qg,v64⟩ W ⟨qa,PB⟩
          replace PB:Kd.R (Kd.int .u8) 5 W wr.heap.size (fun k_=>True) v64 (xs.take p.toNat):=PB
          replace qa:Below wr.heap.size wr W:=qa
          refine norm_ (a':=?_) ?_ ?_
          rotate_left
          ·simp only [putAll,Act.put,List.setIfInBounds_toArray,List.set_cons_zero,List.set_cons_succ]
           rfl
          refine one_ (i:=5) (N:=some 65) (bm 12 959) rfl rfl (one_of HT_.out (by kernel_rfl)) (by decide) (fun K hK=>?_)
          ·skip
           refine Kd.R_lit_step (Kd.int .u8) _ 5 ?hg (N:=65) ?hd (xs:=([10]:List Int)) (inner:=[.int .u8 10]) (ok:=fun _=>True) (okp:=fun _=>True) ?hr ?hp (fun _ hk=>hk) trivial (Below.refl _ _) (Nat.le_refl _) (by simp) ?_;(case hd=>rfl);(case hg=>rfl);(case hr=>first|(go_simp;done)|(go_simp;rfl));(case hp=>exact(Reps.one (show Kd.M (Kd.int .u8) _ _ _ 10 [.int .u8 10] from rfl) (Reps.none _ _)))
           intro v65 W2 ho hb hg_ hnew_
           clear hg_ hnew_
           have PL:=Kd.R_mono (Kd.R_lower (Kd.R_new' ho (Kd.R_lt PB)) (Below.size qa)) (fun _ h_=>h_.2)
           replace PB:=Kd.R_mono (Kd.R_elder' PB (Kd.R_base ho) hb) (fun _ h_=>h_.2)
           replace qa:=below_step qa hb
           clear hb ho
           refine hK.out _ _ qa (fun _=>?_)
           clear hK K
           refine norm_ (a':=?_) ?_ ?_;rotate_left;(show Act.put _ (some 65) _=_;simp only[pw];rfl)
           exact norm_ (by first|(simp only [putAll,Act.put,List.setIfInBounds_toArray,List.set_cons_zero,List.set_cons_succ];done)|(simp only [putAll,Act.put,List.setIfInBounds_toArray,List.set_cons_zero,List.set_cons_succ];rfl)) (hJ0_4_5 (qg,v64,v65) _ ⟨qa,PB,PL⟩)
        ·skip
         rintro⟨qg,v64,v65⟩ W ⟨qa,PB,PL⟩
         replace PB:Kd.R (Kd.int .u8) 5 W wr.heap.size (fun k_=>some k_≠(v65:Value).ownBlock) v64 (xs.take p.toNat):=PB
         replace PL:Kd.R (Kd.int .u8) 5 W wr.heap.size (fun k_=>some k_≠(v64:Value).ownBlock) v65 [10]:=PL
         replace qa:Below wr.heap.size wr W:=qa
         refine norm_ (a':=?_) ?_ ?_
         rotate_left
         ·simp only [putAll,Act.put,List.setIfInBounds_toArray,List.set_cons_zero,List.set_cons_succ]
          rfl
         refine one_ (i:=6) (N:=some 66) (bm 12 1023) rfl rfl (one_of HT_.out (by kernel_rfl)) (by decide) (fun K hK=>?_)
         ·skip
          obtain⟨A65,c65,e65_⟩:=Kd.R_slice PL
          subst e65_
          refine Kd.R_append_rows_step (Kd.int .u8) (w0:=wr) wr.heap.size (by rfl) (.tmp 64) (.tmp 65) 36 5 (.int .u8 0) 1 rfl Tryd.underlying36 info5 rfl (by decide) (by decide) v64 (xs.take p.toNat) [10] _ _ _ (fun _=>True) (fun _=>False) rfl rfl ?aO ?aR (fun _ _ h=>h) (fun _ h=>h.elim) ?aF qa (Below.size qa) ?aL ?_
          (case aR=>exact(Kd.R_reads' PL).2.2)
          (case aF=>exact(fun k_ hk=>trivial))
          (case aO=>exact Kd.R_mono PB (fun _ _=>trivial))
          (case aL=>simp only [List.length_append,List.length_nil,List.length_singleton,qe];have h_:=HLEN.out;have h2_:=qf.out;omega)
          intro v66 W2 ho hb hg hat
          clear PB PL
          have PB:=ho
          replace qa:=hb
          clear hb hg hat ho
          refine hK.out _ _ qa (fun _=>?_)
          clear hK K
          refine norm_ (a':=?_) ?_ ?_;rotate_left;(show Act.put _ (some 66) _=_;simp only[pw];rfl)
          exact norm_ (by first|(simp only [putAll,Act.put,List.setIfInBounds_toArray,List.set_cons_zero,List.set_cons_succ];done)|(simp only [putAll,Act.put,List.setIfInBounds_toArray,List.set_cons_zero,List.set_cons_succ];rfl)) (hJ0_4_5_6 (qg,v64,(.slice A65 ([10]:List Int).length c65),v66) _ ⟨qa,PB⟩)
       ·skip
        rintro⟨qg,v64,v65,v66⟩ W ⟨qa,PB⟩
        replace PB:Kd.R (Kd.int .u8) 5 W wr.heap.size (fun k_=>True) v66 ((xs.take p.toNat) ++ [10]):=PB
        replace qa:Below wr.heap.size wr W:=qa
        refine norm_ (a':=?_) ?_ ?_
        rotate_left
        ·simp only [putAll,Act.put,List.setIfInBounds_toArray,List.set_cons_zero,List.set_cons_succ]
         rfl
        refine one_ (i:=10) (N:=some 70) (bm 12 2047) rfl rfl (one_of HT_.out (by kernel_rfl)) (by decide) (fun K hK=>?_)
        ·skip
         refine Kd.R_append_rows_step (Kd.int .u8) (w0:=wr) wr.heap.size (by rfl) (.tmp 66) (.tmp 69) 36 5 (.int .u8 0) 1 rfl Tryd.underlying36 info5 rfl (by decide) (by decide) v66 ((xs.take p.toNat) ++ [10]) (xs.drop p.toNat) _ _ _ (fun _=>True) (fun _=>False) rfl rfl ?aO ?aR (fun _ _ h=>h) (fun _ h=>h.elim) ?aF qa (Below.size qa) ?aL ?_
         (case aR=>exact Kd.C_below hC3 qa)
         (case aF=>exact(fun k_ hk=>trivial))
         (case aO=>exact PB)
         (case aL=>simp only [List.length_append,List.length_nil,List.length_singleton,qe];have h_:=HLEN.out;have h2_:=qf.out;omega)
         intro v70 W2 ho hb hg hat
         clear PB
         have PB:=ho
         replace qa:=hb
         clear hb hg hat ho
         refine hK.out _ _ qa (fun _=>?_)
         clear hK K
         refine norm_ (a':=?_) ?_ ?_;rotate_left;(show Act.put _ (some 70) _=_;simp only[pw];rfl)
         exact norm_ (by first|(simp only [putAll,Act.put,List.setIfInBounds_toArray,List.set_cons_zero,List.set_cons_succ];done)|(simp only [putAll,Act.put,List.setIfInBounds_toArray,List.set_cons_zero,List.set_cons_succ];rfl)) (hJ0_4_5_6_10 (qg,v64,v65,v66,v70) _ ⟨qa,PB⟩)
      ·skip
       rintro⟨qg,v64,v65,v66,v70⟩ W ⟨qa,PB⟩
       replace PB:Kd.R (Kd.int .u8) 5 W wr.heap.size (fun k_=>True) v70 (((xs.take p.toNat) ++ [10]) ++ (xs.drop p.toNat)):=PB
       replace qa:Below wr.heap.size wr W:=qa
       refine norm_ (a':=?_) ?_ ?_
       rotate_left
       ·simp only [putAll,Act.put,List.setIfInBounds_toArray,List.set_cons_zero,List.set_cons_succ]
        rfl
       refine pz 11 4 (bm 12 4095) HT_ ?_
       refine done_ (done_of HT_.out (by kernel_rfl)) ?_
       clear HT_ HW_
       obtain⟨Af,cf,ef⟩:=Kd.R_slice PB
       subst ef
       have qb:=Qa (RB.of_R (Kd.R_lower PB (below_size HB.out)) (fun y hy=>by rcases List.mem_append.1 hy with hy|hy;(rcases List.mem_append.1 hy with hy|hy;exact HRB.out.byte y (List.mem_of_mem_take hy);(rw [List.mem_singleton.1 hy];decide));exact HRB.out.byte y (List.mem_of_mem_drop hy)) (by rw [List.length_append,List.length_append,qe,List.length_drop,List.length_singleton];have h_:=HLEN.out;have h2_:=qf.out;omega))
       have qc:=Qa (below_step HB.out qa)
       have qd:=Qa (IsS76.below HI.out qa)
       clear HB HI HRB PB qa
       have HRB:=qb
       have HB:=qc
       have HI:=qd
       clear qb qc qd
       go_wp2
       go_roundg k1
       case measure=>have:=HK1.out;omega
       case rel=>exact⟨(((xs.take p.toNat) ++ [10]) ++ (xs.drop p.toNat)),_,_,wrap64 (n - 1),q2,q3,by first|rfl|(simp only [List.length_append,List.length_drop,List.length_singleton,List.length_cons,List.length_nil,qe];done),rfl,H',⟨by have:=HK1.out;omega⟩,HRB,HI,HB⟩
     rw [if_neg hq3] at H
     cases H
    ·rw [if_neg hx] at H
     have hxb:decide ((xs.length:Int) > 0)=false:=decide_eq_false hx
     have hxb2:decide (0 < (xs.length:Int))=false:=decide_eq_false hx
     have hxb3:decide (0 < xs.length)=false:=decide_eq_false (by omega)
     obtain rfl:=Option.some.inj H
     have hcv_:=Kd.C_string (P:=Tryd.prog) (c:=c) Tryd.underlying36 Tryd.underlying5 Tryd.underlying9 HRB.out.C
     go_wp2
     go_ret
     exact⟨rfl,HB.out⟩
   ·rw [if_neg hn] at H
    have hnb:decide (n > 0)=false:=decide_eq_false hn
    have hnb2:decide (0 < n)=false:=decide_eq_false hn
    obtain rfl:=Option.some.inj H
    have hcv_:=Kd.C_string (P:=Tryd.prog) (c:=c) Tryd.underlying36 Tryd.underlying5 Tryd.underlying9 HRB.out.C
    go_wp2
    go_ret
    exact⟨rfl,HB.out⟩


end Go.Proofs.YtidogkjhjmcliaaDoor.HFnTitlesBack
