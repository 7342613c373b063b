/-
 What the title's functions want beyond the printed words: a string appended in a region of any order; a strings.Builder that the call has made (its WriteString at this program, the builder's bytes carried over what the call does elsewhere).
 Conditions: none beyond what each theorem names.
-/
import Derived.Test.YtidogkjhjmcliaaDoorGlob
import Derived.Test.YtidogkjhjmcliaaDoorWLast
namespace Go.Proofs.YtidogkjhjmcliaaDoorW.PrintWords
open Go.RowKit
set_option linter.unusedVariables false
section
variable {P : Program} {ops : Array Oper} {o : Oper} {a : Act} {Q : Exit → Act → World → Prop} {Kc : Act → World → Prop}
/-- A string's bytes appended to a slice of bytes, as one operation of a region of any order. -/
theorem print_append_str_step {w0 W : World} (base : Nat) (hw : Region.wanted o (yielded ops a.tmps) = true) (s x : Operand) (t u e : TypeId)
  (ho:o.op=.call { callee:=.builtin .append,args:=#[s,x],argTypes:=#[t,u] })
  (ht:P.underlying t=some (.slice e)) (hu:P.underlying u=some .string) (hinfo:(P.info? e).map (fun i=>(i.zero,i.size,i.bytes))=some (some (.int .u8 0),1,1))
  (v:Value) (xs:List Int) (y:ByteArray) (hs:a.eval s=v) (hx:a.eval x=.string y)
  (HO:W.ownsRow base e 1 v xs.length (nums .u8 xs)) (HB:Below base w0 W) (hbase:base≤W.heap.size) (hl:xs.length+y.size≤140737488355328)
  (h:∀ v1 w1,w1.ownsRow base e 1 v1 (xs ++ bytesOf y).length (nums .u8 (xs ++ bytesOf y))→Below base w0 w1→W.grownBy w1 v.ownBlock→Kc (a.put o.dst v1) w1) :
  if Region.wanted o (yielded ops a.tmps)=true then Oper.wp P o a W Kc Q else Kc (a.put o.dst undef) W:=by
 obtain⟨i0,hi,hzz⟩:=Option.map_eq_some_iff.1 hinfo
 simp only [Prod.mk.injEq] at hzz
 obtain⟨hz0,hz1,hz2⟩:=hzz
 obtain⟨v1,w1,hr1,hown,hg,_⟩:=Lib.run_append_own_string (P:=P) W base t u o.type e i0 ht hu hi hz0 hz1 hz2 v xs.length (nums .u8 xs) HO y (by simp only [maxLen];omega) hl hbase
 have hl2:(xs ++ bytesOf y).length=xs.length+y.size:=by rw [List.length_append,bytesOf_length]
 have hc:nums .u8 (xs ++ bytesOf y)=nums .u8 xs ++ Lib.strCells y:=by
  rw [nums_append]
  congr 1
  simp [nums,bytesOf,Lib.strCells]
 rw [if_pos hw]
 unfold Oper.wp execOp
 simp only [ho,resolve,invoke,builtin,Sem.run_bind,Sem.run_pure,Result.andThen_ok,List.map_toArray,List.map_cons,List.map_nil,hs,hx,hr1]
 exact h v1 w1 (by rw [hl2,hc];exact hown) (HB.grown hg hbase (own_base HO)) hg
end

/-! #### the builder -/
/-- A builder of the call's own that holds these bytes. -/
structure BdR (W : World) (B b : Nat) (xs : List Int) : Prop where
 is : Lib.IsBuilder 49 5 B b (nums .u8 xs) W
 byte : ∀ x ∈ xs, 0 ≤ x ∧ x ≤ 255
theorem builderAt_move {B b : Nat} {p : Value} {bs : List Value} {W W' : World} (h : Lib.BuilderAt 49 5 B b p bs W) (hk : ∀ (k : Nat) (c : Array Value) (t : TypeId), W.heap[k]? = some (Obj.cells c t (0, 0)) → t = 49 ∨ t = 5 → W'.heap[k]? = some (Obj.cells c t (0, 0))) : Lib.BuilderAt 49 5 B b p bs W' := by
 obtain⟨h1,v,h2,h3,h4⟩:=h
 refine⟨h1,v,hk b _ _ h2 (Or.inl rfl),⟨h3.1,?_⟩,h4⟩
 rcases h3.2 with h5|⟨g,cap,cur,e1,e2,e3,e4,e5,e6⟩
 ·exact Or.inl h5
 ·exact Or.inr ⟨g,cap,cur,e1,e2,hk g _ _ e3 (Or.inr rfl),e4,e5,e6⟩
theorem BdR_move {B b : Nat} {xs : List Int} {W W' : World} (h : BdR W B b xs) (hk : ∀ (k : Nat) (c : Array Value) (t : TypeId), W.heap[k]? = some (Obj.cells c t (0, 0)) → t = 49 ∨ t = 5 → W'.heap[k]? = some (Obj.cells c t (0, 0))) : BdR W' B b xs := by
 refine⟨?_,h.byte⟩
 rcases h.is with h|h
 ·exact Or.inl (builderAt_move h hk)
 ·exact Or.inr (builderAt_move h hk)
theorem bld_lt {W : World} {k : Nat} {o : Obj} (h : W.heap[k]? = some o) : k < W.heap.size := (Array.getElem?_eq_some_iff.1 h).1
theorem BdR_drew {W : World} {B b : Nat} {xs : List Int} (h : BdR W B b xs) : BdR W.drew B b xs := BdR_move h fun _ _ _ e _ => e
theorem BdR_drewN {W : World} {B b n : Nat} {xs : List Int} (h : BdR W B b xs) : BdR (W.drewN n) B b xs := BdR_move h fun _ _ _ e _ => e
theorem BdR_alloc {W : World} {B b : Nat} {xs : List Int} {o : Obj} (h : BdR W B b xs) : BdR (W.alloc o) B b xs := BdR_move h fun k _ _ e _ => (Lib.alloc_old W o k (bld_lt e)).trans e
theorem BdR_below {W W' : World} {B b : Nat} {xs : List Int} (h : BdR W B b xs) (hb : Below W.heap.size W W') : BdR W' B b xs := BdR_move h fun k _ _ e _ => (hb.block k (bld_lt e)).trans e
theorem BdR_set {W : World} {B b g i : Nat} {xs : List Int} {v : Value} {c : Array Value} (h : BdR W B b xs) (hg : W.heap[g]? = some (.cells c 40 (0, 0))) : BdR (W.setCell ⟨g, i, none⟩ v) B b xs := BdR_move h fun k c' t e ht => by
 have hk:g≠k:=by
  rintro rfl
  rw [hg] at e
  simp only [Option.some.injEq,Obj.cells.injEq] at e
  obtain⟨_,rfl,_⟩:=e
  rcases ht with h|h <;> simp at h
 exact(Below.heap_setCell W _ _ k (fun e'=>hk e'.symm)).trans e
/-- The new builder, where its zero value is stored once more. -/
theorem BdR_new {W : World} {B g : Nat} (hB : B ≤ g) (hg : W.heap[g]? = some (.cells #[.pointer none, .slice none 0 0] 49 (0, 0))) : BdR W B g [] :=
 ⟨Or.inl ⟨hB,.slice none 0 0,hg,World.ownsRow_nil _ _ _ _,by simp [Value.ownBlock]⟩,fun x hx=>by cases hx⟩
/-- What is stored into a title of the call's own is no builder. -/
theorem BdR_set3 {W : World} {B b g i j k : Nat} {xs : List Int} {v1 v2 v3 : Value} {c : Array Value} (h : BdR W B b xs) (hg : W.heap[g]? = some (.cells c 40 (0, 0))) : BdR (((W.setCell ⟨g, i, none⟩ v1).setCell ⟨g, j, none⟩ v2).setCell ⟨g, k, none⟩ v3) B b xs := BdR_move h fun q c' t e ht => by
 have hk:q≠g:=by
  rintro rfl
  rw [hg] at e
  simp only [Option.some.injEq,Obj.cells.injEq] at e
  obtain⟨_,rfl,_⟩:=e
  rcases ht with h|h <;> simp at h
 exact((Below.heap_setCell _ _ _ q hk).trans ((Below.heap_setCell _ _ _ q hk).trans (Below.heap_setCell W _ _ q hk))).trans e
theorem bytesOf_range (s : ByteArray) : ∀ x ∈ bytesOf s, 0 ≤ x ∧ x ≤ 255 := by
 intro x hx
 unfold bytesOf at hx
 obtain⟨b,_,rfl⟩:=List.mem_map.1 hx
 have:=b.toNat_lt
 omega

set_option maxHeartbeats 2000000 in
set_option maxRecDepth 100000 in
/-- (*strings.Builder).copyCheck at a builder that has been used. -/
theorem copyCheck_used (b : Nat) (w : World) (h0 : w.cell? ⟨b, 0, none⟩ = some (.pointer (some ⟨b, 0, none⟩))) :
  Calls Tryd.prog 42 #[.pointer (some ⟨b,0,none⟩)] w fun e w'=>e=.returned (.tuple #[])∧w'=w:=by
 obtain⟨j,hj,_⟩:=Option.map_eq_some_iff.1 Tryd.Builder_Extra_169.sizeBuilder
 go_enter Tryd.func42,Tryd.ntmps42
 go_wp2
 rw [Lib.run_neq_ptr_same w _ Tryd.underlying47 hj]
 go_wp2
 go_end0
 exact⟨rfl,rfl⟩
set_option maxHeartbeats 2000000 in
set_option maxRecDepth 100000 in
/-- .. at a fresh one: it stores its own address. -/
theorem copyCheck_fresh (b : Nat) (w : World) (h0 : w.cell? ⟨b, 0, none⟩ = some (.pointer none)) (hsh : w.shape? b = some (49, 2)) (hfz : w.frozen? ⟨b, 0, none⟩ = false) :
  Calls Tryd.prog 42 #[.pointer (some ⟨b,0,none⟩)] w fun e w'=>e=.returned (.tuple #[])∧w'=w.setCell ⟨b,0,none⟩ (.pointer (some ⟨b,0,none⟩)):=by
 obtain⟨j,hj,hjs⟩:=Option.map_eq_some_iff.1 Tryd.Builder_Extra_169.sizeBuilder
 go_enter Tryd.func42,Tryd.ntmps42
 go_wp2
 rw [Lib.run_to_unsafe w ⟨b,0,none⟩ Tryd.underlying47 Tryd.underlying82 hj (by rw [hjs];decide) hsh (Nat.zero_lt_succ 1)]
 simp only [Result.andThen]
 rw [Oper.upon_value]
 go_wp2
 rw [run_callFunc_extern Tryd.func54 (by kernel_rfl) (by kernel_rfl) (by kernel_rfl) (e:=Extern.AbiNoEscape.same) (by kernel_rfl)]
 rw [Lib.run_noEscape]
 simp only [Result.andThen]
 rw [Oper.upon_value]
 go_wp2
 rw [Lib.run_from_unsafe w ⟨b,0,none⟩ Tryd.underlying82 Tryd.underlying47 hj hsh Tryd.Builder_Extra_169.liesBuilder]
 simp only [Result.andThen]
 rw [Oper.upon_value]
 go_wp2
 go_end0
 exact⟨rfl,rfl⟩
theorem copyCheck_any (B b : Nat) (bs : List Value) (w : World) (h : Lib.IsBuilder 49 5 B b bs w) :
  Calls Tryd.prog 42 #[.pointer (some ⟨b,0,none⟩)] w fun e w'=>e=.returned (.tuple #[])∧(Lib.BuilderAt 49 5 B b (.pointer (some ⟨b,0,none⟩)) bs w'∧Below B w w'):=by
 rcases h with h|h
 ·refine(copyCheck_fresh b w h.cell0 h.shape h.frozen0).mono ?_
  rintro e w' ⟨rfl,rfl⟩
  exact⟨rfl,h.used _,(Below.refl B w).setCell (p:=⟨b,0,none⟩) h.1 _⟩
 ·refine(copyCheck_used b w h.cell0).mono ?_
  rintro e w' ⟨rfl,rfl⟩
  exact⟨rfl,h,Below.refl B _⟩
set_option maxHeartbeats 2000000 in
set_option maxRecDepth 100000 in
/-- (*strings.Builder).WriteString. -/
theorem writeString (B b : Nat) (bs : List Value) (s : ByteArray) (w : World) (h : Lib.IsBuilder 49 5 B b bs w) (hlen : bs.length + s.size ≤ 140737488355328) (hBw : B ≤ w.heap.size) :
  Calls Tryd.prog 25 #[.pointer (some ⟨b,0,none⟩),.string s] w fun e w'=>e=.returned (.tuple #[.int .i64 s.size,.nilIface])∧(Lib.BuilderAt 49 5 B b (.pointer (some ⟨b,0,none⟩)) (bs ++ Lib.strCells s) w'∧Below B w w'):=by
 obtain⟨i0,hi,hz0,hz1,hz2⟩:=info_parts Tryd.Builder_Extra_169.infoByte
 go_enter Tryd.func25,Tryd.ntmps25
 go_wp2_with (go_at_call 42;refine(copyCheck_any B b bs _ h).mono ?_)
 rintro e w1 ⟨rfl,h1,hb1⟩
 obtain⟨hB,v,hbk,hown,hne⟩:=h1
 have c0:w1.cell? ⟨b,0,none⟩=some (.pointer (some ⟨b,0,none⟩)):=by rw [Lib.cell_of_heap hbk];rfl
 have c1:w1.cell? ⟨b,1,none⟩=some v:=by rw [Lib.cell_of_heap hbk];rfl
 go_wp2_with (at_builtin;refine Lib.wpList_append_own_string _ rfl _ _ 36 9 rfl B 5 i0 Tryd.underlying36 Tryd.underlying9 hi hz0 hz1 hz2 _ _ _ rfl hown s rfl ?c3 ?c4 ?c5 ?_)
 case c3=>unfold maxLen;omega
 case c4=>omega
 case c5=>have:=hb1.size;omega
 intro v' w2 hown' hgrow _
 have hlt:b < w1.heap.size:=by
  rcases Nat.lt_or_ge b w1.heap.size with h'|h'
  ·exact h'
  ·simp [Array.getElem?_eq_none h'] at hbk
 have hb2:w2.heap[b]? = some (.cells #[.pointer (some ⟨b,0,none⟩),v] 49 (0,0)):=by
  rw [hgrow.block b hlt (fun e=>hne e.symm)]
  exact hbk
 have d0:w2.cell? ⟨b,0,none⟩=some (.pointer (some ⟨b,0,none⟩)):=by rw [Lib.cell_of_heap hb2];rfl
 have d1:w2.cell? ⟨b,1,none⟩=some v:=by rw [Lib.cell_of_heap hb2];rfl
 have f1:w2.frozen? ⟨b,1,none⟩=false:=Lib.frozen_of_heap hb2 1
 obtain⟨ao,n',cap,rfl⟩:∃ ao n' cap,v'=.slice ao n' cap:=by
  rcases hown'.2 with ⟨hv,_⟩|⟨g,cap,cur,hv,_⟩
  ·exact⟨_,_,_,hv⟩
  ·exact⟨_,_,_,hv⟩
 go_wp2
 go_ret2
 refine⟨rfl,?_,?_⟩
 ·exact Lib.BuilderAt.put (T:=49) (e:=5) hB hb2 (bs':=bs ++ Lib.strCells s) (by simpa [Lib.strCells_length] using hown') (by decide)
 ·exact(hb1.grown hgrow (by have:=hb1.size;omega) (fun k hk=>(hown.lt k hk).1)).setCell (p:=⟨b,1,none⟩) hB _
/-- The same in the printed words: what the builder holds behind it; nothing below B has turned, nor any block of a title. -/
theorem BdR_write (B b : Nat) (xs : List Int) (s : ByteArray) (w : World) (h : BdR w B b xs) (hlen : xs.length + s.size ≤ 140737488355328) (hBw : B ≤ w.heap.size) :
  Calls Tryd.prog 25 #[.pointer (some ⟨b,0,none⟩),.string s] w fun e w'=>e=.returned (.tuple #[.int .i64 s.size,.nilIface])∧BdR w' B b (xs ++ bytesOf s)∧Below B w w':=by
 refine(writeString B b (nums .u8 xs) s w h.is (by simpa [nums] using hlen) hBw).mono ?_
 rintro e w' ⟨rfl,h1,h2⟩
 have hc:nums .u8 (xs ++ bytesOf s)=nums .u8 xs ++ Lib.strCells s:=by
  rw [nums_append]
  congr 1
  simp [nums,bytesOf,Lib.strCells]
 refine⟨rfl,⟨by rw [hc];exact Or.inr h1,fun x hx=>?_⟩,h2⟩
 rcases List.mem_append.1 hx with hx|hx
 ·exact h.byte x hx
 ·exact bytesOf_range s x hx
theorem BdR_string (B b : Nat) (xs : List Int) (w : World) (h : BdR w B b xs) (hBw : B ≤ w.heap.size) :
  Calls Tryd.prog 28 #[.pointer (some ⟨b,0,none⟩)] w fun e w'=>e=.returned (.string (strOfNums xs))∧Below B w w':=by
 have hc:nums .u8 xs=Lib.byteCells (xs.map fun n=>UInt8.ofNat n.toNat):=by
  unfold nums Lib.byteCells
  rw [List.map_map]
  refine List.map_congr_left fun x hm=>?_
  obtain⟨h0,h1⟩:=h.byte x hm
  have:(UInt8.ofNat x.toNat).toNat=x.toNat:=by
   rw [UInt8.toNat_ofNat']
   omega
  simp only [Function.comp_def,this]
  congr 1
  omega
 have h2:=h.is
 rw [hc] at h2
 exact Tryd.Builder_String_any B b _ w h2 hBw
end Go.Proofs.YtidogkjhjmcliaaDoorW.PrintWords
