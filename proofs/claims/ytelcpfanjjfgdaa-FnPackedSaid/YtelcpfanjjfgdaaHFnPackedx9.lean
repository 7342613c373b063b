-- Laid by myprint.py, a program of this repo, out of the kit's printer and this repo's own texts (wip/hand).
import Derived.Test.YtelcpfanjjfgdaaHFnPackedx0
import Derived.Test.YtelcpfanjjfgdaaHFnPackedx3
import Derived.Test.YtelcpfanjjfgdaaHFnPackedx4
namespace Go.Proofs.Ytelcpfanjjfgdaa.HFnPacked
open Go.RowKit Go.Proofs.YtelcpfanjjfgdaaW.PrintWords Go.Proofs.YtelcpfanjjfgdaaW.PrintLast Go.Proofs.YtelcpfanjjfgdaaW.PrintMore
attribute [local go_sem] max2_int min2_int max_two min_two max_three min_three max_four min_four   -- for this text's walks alone
set_option linter.unusedVariables false
set_option linter.unusedSimpArgs false
theorem Ja : type_of% @Aside0.mk := @Aside0.mk
theorem Jb : type_of% @pw_below_drewN := @pw_below_drewN

section
open Go.Sort Go.Shelf Go.Lib
instance : Inhabited S71 := ⟨z71⟩
theorem gtr_str (t : TypeId) (a b : ByteArray) : binOp .gtr t (.string a) (.string b) = pure (.bool (Op.bytesLess b.toList a.toList)) := by
 have h:=less_or a.toList b.toList
 simp only [binOp,Op.stringOp]
 congr 2
 rw [h,Bool.not_not]
attribute [local go_sem] gtr_str
def cmpN (x y : S71) : Int := if Op.bytesLess x.f0.toList y.f0.toList = true then -1 else if Op.bytesLess y.f0.toList x.f0.toList = true then 1 else 0
set_option maxHeartbeats 4000000 in
set_option maxRecDepth 100000 in
theorem pk_cmp (x y : S71) (W : World) : Calls Try.prog 81 #[.agg #[.string x.f0, .int .i64 x.f1, .int .i64 x.f2], .agg #[.string y.f0, .int .i64 y.f1, .int .i64 y.f2]] W fun e w' => e = .returned (.int .i64 (cmpN x y)) ∧ ∃ q os', w' = grow (W.drewN q) os' := by
 have hu:=Try.underlying71
 go_enter Try.func81,Try.ntmps81
 go_wp2
 all_goals (go_ret;refine⟨congrArg (fun b=>Ending.returned (Value.int .i64 b)) ?_,0,_,by rw [alloc_eq_grow,alloc_eq_grow,grow_grow];rfl⟩)
 all_goals (unfold cmpN;simp_all)
def encA (x : S71) : List Value := [.string x.f0, .int .i64 x.f1, .int .i64 x.f2]
theorem encA_len (x : S71) : (encA x).length = 3 := rfl
theorem encA_one (x : S71) : ∀ v ∈ encA x, v.oneCell' = true := by
 intro v hv
 simp only [encA,List.mem_cons,List.not_mem_nil,or_false] at hv
 rcases hv with rfl|rfl|rfl <;> rfl
theorem flat_at (ts : List S71) (j i : Nat) (hj : j < ts.length) (hi : i < 3) : (flatK encA 3 ts.toArray)[j * 3 + i]! = (encA (ts.getD j z71))[i]! := by
 rw [get_flatK _ _ _ _ (by simp;omega)]
 have e1:(j*3+i) / 3=j:=by omega
 have e2:(j*3+i) % 3=i:=by omega
 rw [e1,e2]
 congr 2
 simp [hj]
theorem flat_drop (ts : List S71) (j : Nat) (hj : j < ts.length) : ((flatK encA 3 ts.toArray).toList.drop (j * 3)).take 3 = encA (ts.getD j z71) := by
 have hs:(flatK encA 3 ts.toArray).size=ts.length*3:=by simp
 apply List.ext_getElem?
 intro i
 by_cases hi:i < 3
 ·rw [List.getElem?_take_of_lt hi,List.getElem?_drop,Array.getElem?_toList]
  have h1:j*3+i < (flatK encA 3 ts.toArray).size:=by omega
  have h2:=flat_at ts j i hj hi
  rw [getElem!_pos (flatK encA 3 ts.toArray) (j*3+i) h1] at h2
  rw [Array.getElem?_eq_getElem h1,h2]
  have h3:i < (encA (ts.getD j z71)).length:=by rw [encA_len];exact hi
  rw [getElem!_pos (encA (ts.getD j z71)) i h3,List.getElem?_eq_getElem h3]
 ·rw [List.getElem?_take_eq_none (by omega),List.getElem?_eq_none (by rw [encA_len];omega)]
theorem k71_enc {w : World} {base : Nat} {ok : Nat → Prop} {x : S71} {cs : List Value} (h : k71.M w base ok x cs) : cs = encA x := k71_openM h
theorem pk_holds {w : World} {base g cap : Nat} {ok : Nat → Prop} {xs : List S71} (h : k71.R 71 w base ok (.slice (some ⟨g, 0, none⟩) xs.length cap) xs) : HoldsK encA 3 w g 0 xs.toArray := by
 intro j hj
 have hs:(flatK encA 3 xs.toArray).size=xs.length*3:=by simp
 have hj2:j / 3 < xs.length:=by omega
 obtain⟨cs,_,hM,hc,hf⟩:=Kd.R_elem h z71 ((j / 3:Nat):Int) (by omega) (by omega)
 rw [Int.toNat_natCast] at hM hc hf
 obtain rfl:=k71_enc hM
 have e:j / 3*3+j % 3=j:=by omega
 have hd:=flat_at xs (j / 3) (j % 3) hj2 (by omega)
 rw [e] at hd
 have hsz:k71.sz=3:=rfl
 rw [hsz] at hc hf
 have h3:j % 3 < (encA (xs.getD (j / 3) z71)).length:=by rw [encA_len];omega
 have:=hc (j % 3) _ (List.getElem?_eq_getElem h3)
 rw [e] at this
 refine⟨?_,?_⟩
 ·rw [Nat.zero_add,this,hd,getElem!_pos (encA (xs.getD (j / 3) z71)) (j % 3) h3]
  rfl
 ·have h4:=hf (j % 3)
  rw [e] at h4
  rw [Nat.zero_add]
  exact h4
theorem pk_heap {w : World} {g n : Nat} {os : Array Obj} {cur : Array Value} {e : TypeId} {fr : Nat × Nat} (d : Array S71) (hb : w.heap[g]? = some (.cells cur e fr)) :
  (sortWorldK encA 3 w g 0 n d os).heap[g]? = some (.cells (putCells id 0 (flatK encA 3 d) cur) e fr):=by
 have hg:g < w.heap.size:=(Array.getElem?_eq_some_iff.1 hb).1
 unfold sortWorldK putRowK
 rw [heap_grow_old _ _ (by simpa using hg)]
 simp [putRow,mapBlock,Sort.ahead,Array.getElem?_modify,hb,onCells]
theorem pk_grown {w : World} {g n : Nat} {os : Array Obj} (d : Array S71) : w.grownBy (sortWorldK encA 3 w g 0 n d os) (some g) := by
 refine⟨rfl,rfl,rfl,by simp [sortWorldK,putRowK],fun k hk hne=>?_⟩
 unfold sortWorldK putRowK
 rw [heap_grow_old _ _ (by simpa using hk)]
 have:g≠k:=fun e=>hne (by rw [e])
 simp [putRow,mapBlock,Sort.ahead,Array.getElem?_modify,this]
theorem pk_take (cur : Array Value) (F : Array Value) (h : F.size ≤ cur.size) : (putCells id 0 F cur).toList.take F.size = F.toList := by
 apply List.ext_getElem?
 intro j
 by_cases hj:j < F.size
 ·rw [List.getElem?_take_of_lt hj,Array.getElem?_toList]
  simp [putCells,hj,show j < cur.size by omega]
 ·rw [List.getElem?_take_eq_none (by omega),List.getElem?_eq_none (by simp;omega)]
theorem pk_sorted {w : World} {base g cap n : Nat} {ok : Nat → Prop} {os : Array Obj} {xs ts : List S71} (h : k71.R 71 w base ok (.slice (some ⟨g, 0, none⟩) xs.length cap) xs) (hl : ts.length = xs.length) :
  k71.R 71 (sortWorldK encA 3 w g 0 n ts.toArray os) base ok (.slice (some ⟨g,0,none⟩) xs.length cap) ts:=by
 obtain⟨h0,inner,ho,hr⟩:=h
 obtain⟨ho1,ho2⟩:=ho
 rcases ho2 with ⟨hv,_⟩|⟨g',cap',cur,hv,hbase,hb,hn,hcap,hcs,ht⟩
 ·cases hv
 have hsz:k71.sz=3:=rfl
 rw [hsz] at hcs
 injection hv with ha _ hc
 injection ha with ha
 injection ha with hg
 subst hg
 subst hc
 have hfs:(flatK encA 3 ts.toArray).size=ts.length*3:=by simp
 refine⟨h0,(flatK encA 3 ts.toArray).toList,⟨by rw [hsz,Array.length_toList,hfs],.inr ⟨g,cap,_,by rw [hl],hbase,pk_heap _ hb,by omega,hcap,by rw [hsz];simp [putCells,hcs],?_⟩⟩,?_⟩
 ·rw [hsz,← hfs]
  exact pk_take _ _ (by omega)
 ·refine⟨by rw [hsz,Array.length_toList,hfs],fun j p hj=>?_⟩
  have hjl:j < ts.length:=(List.getElem?_eq_some_iff.1 hj).1
  rw [hsz,flat_drop ts j hjl,List.getD_eq_getElem?_getD,hj]
  exact k71_mkM _ _ _ _
theorem pk_lays (blk off size : Nat) (w : World) : CmpLays Try.prog 81 #[] encA 3 cmpN blk off size w :=
 fun _ _ _ _ x y=>pk_cmp x y _
set_option maxHeartbeats 2000000 in
theorem pk_ins0 (p : Option Addr) (cap : Nat) (fv : Value) (w : World) :
  Calls Try.prog 94 #[.slice p 0 cap,.int .i64 0,.int .i64 0,fv] w fun e w'=>e=.returned (.tuple #[])∧w'=w:=by
 go_enter Try.func94,Try.ntmps94
 go_wp2
 refine wp_loop_rounds 1 ?_
 rw [rounds_succ]
 go_wp2
 go_end0
 exact⟨rfl,rfl⟩
set_option maxHeartbeats 2000000 in
theorem pk_pdq0 (p : Option Addr) (cap : Nat) (lim : Int) (fv : Value) (w : World) :
  Calls Try.prog 90 #[.slice p 0 cap,.int .i64 0,.int .i64 0,.int .i64 lim,fv] w fun e w'=>e=.returned (.tuple #[])∧w'=w:=by
 have hi:=fun W=>pk_ins0 p cap fv W
 go_enter Try.func90,Try.ntmps90
 go_wp2
 refine wp_loop_rounds 1 ?_
 rw [rounds_succ]
 go_wp2_with (go_at_call 94;refine(hi _).mono ?_;rintro e w' ⟨rfl,rfl⟩)
 (try simp only [Exit.inBlock,Exit.then])
 refine bodyPost_ret (results_none rfl _ _ _) rfl ?_
 exact⟨rfl,rfl⟩
set_option maxHeartbeats 2000000 in
theorem pk_len0 (w : World) : Calls Try.prog 91 #[.int .u64 0] w fun e w' => (∃ l : Int, e = .returned (.int .i64 l)) ∧ w' = w := by
 have h:=Any.bits_Len (SlLaysF0.n15.bits (P:=Try.prog) (ρ:=Try.sortAssets_ren) { Try.sortAssets with }) (0:Int) w (by omega) (by omega)
 change Calls Try.prog 91 _ _ _ at h
 exact h.mono fun _ _ ⟨he,hw⟩=>⟨⟨_,he⟩,hw⟩
set_option maxHeartbeats 2000000 in
theorem pk_sort0 (p : Option Addr) (cap : Nat) (fv : Value) (w : World) :
  Calls Try.prog 80 #[.slice p 0 cap,fv] w fun e w'=>e=.returned (.tuple #[])∧w'=w:=by
 have hp:=fun lim W=>pk_pdq0 p cap lim fv W
 have hl:=fun W=>pk_len0 W
 go_enter Try.func80,Try.ntmps80
 go_wp2_with (first|(go_at_call 91;refine(hl _).mono ?_;rintro e w' ⟨⟨l,rfl⟩,rfl⟩)|(go_at_call 90;refine(hp _ _).mono ?_;rintro e w' ⟨rfl,rfl⟩))
 go_end0
 exact⟨rfl,rfl⟩
theorem bl_irrefl : ∀ x : List UInt8, Op.bytesLess x x = false
 | [] => rfl
 | a :: x => by
  have h : ¬ a < a:=by rw [UInt8.lt_iff_toNat_lt];omega
  simp [Op.bytesLess,h,bl_irrefl x]
theorem bl_trans : ∀ x y z : List UInt8, Op.bytesLess x y = true → Op.bytesLess y z = true → Op.bytesLess x z = true
 | [], [], _, h, _ => by simp [Op.bytesLess] at h
 | [], _ :: _, [], _, h => by simp [Op.bytesLess] at h
 | [], _ :: _, _ :: _, _, _ => by simp [Op.bytesLess]
 | _ :: _, [], _, h, _ => by simp [Op.bytesLess] at h
 | _ :: _, _ :: _, [], _, h => by simp [Op.bytesLess] at h
 | a :: x, b :: y, c :: z, h1, h2 => by
  simp only [Op.bytesLess,Bool.or_eq_true,decide_eq_true_eq,Bool.and_eq_true,beq_iff_eq] at h1 h2 ⊢
  rcases h1 with h1|⟨e1,h1⟩
  ·rcases h2 with h2|⟨e2,_⟩
   ·exact .inl (by rw [UInt8.lt_iff_toNat_lt] at *;omega)
   ·exact .inl (by rw [← e2];exact h1)
  ·rcases h2 with h2|⟨e2,h2⟩
   ·exact .inl (by rw [e1];exact h2)
   ·exact .inr ⟨e1.trans e2,bl_trans x y z h1 h2⟩
theorem lt_cmpN (x y : S71) : ltOf cmpN x y = Op.bytesLess x.f0.toList y.f0.toList := by
 unfold ltOf cmpN
 cases h:Op.bytesLess x.f0.toList y.f0.toList
 ·by_cases h2:Op.bytesLess y.f0.toList x.f0.toList=true <;> simp [h2]
 ·simp
theorem pk_swo : SWO (ltOf cmpN) where
 irrefl x:=by rw [lt_cmpN];exact bl_irrefl _
 trans x y z h1 h2:=by rw [lt_cmpN] at *;exact bl_trans _ _ _ h1 h2
 ntrans x y z h1 h2:=by
  rw [lt_cmpN] at *
  have t1:=less_or x.f0.toList y.f0.toList
  have t2:=less_or y.f0.toList z.f0.toList
  cases h3:Op.bytesLess x.f0.toList z.f0.toList with
  | false => rfl
  | true =>
   rw [h1,Bool.false_or] at t1
   cases e1:Op.bytesLess y.f0.toList x.f0.toList with
   | true => exact absurd (bl_trans _ _ _ e1 h3) (by rw [h2]; simp)
   | false =>
    rw [e1] at t1
    have:x.f0.toList=y.f0.toList:=by simpa using t1
    rw [this] at h3
    rw [h3] at h2
    cases h2
/-- slices.SortFunc over assets by their names: the list that it leaves. -/
def sortA (l0 : List S71) : List S71 := (pdq (ltOf cmpN) l0.toArray 0 l0.toArray.size (Lib.bitLen l0.toArray.size) true true).toList
theorem sortA_spec (l0 : List S71) : PermIn 0 l0.toArray.size l0.toArray (pdq (ltOf cmpN) l0.toArray 0 l0.toArray.size (Lib.bitLen l0.toArray.size) true true) ∧ SortedIn (ltOf cmpN) 0 l0.toArray.size (pdq (ltOf cmpN) l0.toArray 0 l0.toArray.size (Lib.bitLen l0.toArray.size) true true) :=
 pdq_sorts (ltOf cmpN) pk_swo l0.toArray 0 l0.toArray.size _ true true (Nat.zero_le _) (Nat.le_refl _) (Or.inl rfl)
theorem sortA_len (l0 : List S71) : (sortA l0).length = l0.length := by
 have:=(sortA_spec l0).1.1
 unfold sortA
 rw [Array.length_toList,this]
 simp
def pk_sort.f (l0 : List S71) : Option (List S71) := if l0.length < 4611686018427387904 then some (sortA l0) else none
theorem pk_sort.calls (P0_ : Nat → Prop) (u9000_ : Value) (l0 : List S71) (r2 : List S71) (w0 w : World) (hB : Below w0.heap.size w0 w) (ho0 : Kd.R k71 71 w w0.heap.size P0_ u9000_ l0) (h : pk_sort.f l0 = some r2) :
  Calls Try.prog 80 #[u9000_,.func (.func 81) #[] #[]] w fun e w'=>e=.returned (.tuple #[])∧Kd.R k71 71 w' w0.heap.size (fun k_=>(P0_ k_∨w.heap.size≤k_)) u9000_ r2∧Below w0.heap.size w0 w'∧Kept w w' (fun k_=>P0_ k_):=by
 unfold pk_sort.f at h
 by_cases hl:l0.length < 4611686018427387904
 ·rw [if_pos hl] at h
  obtain rfl:=Option.some.inj h
  clear h
  by_cases he:0 < l0.length
  ·obtain⟨g,cap,rfl,hge,hlt,_⟩:=Kd.R_form ho0 he
   have eg:∀ args w,(callFunc 81 args).run Try.prog w=.ok (.enter 81 args) w:=enters_of Try.func81 (by kernel_rfl) rfl
   have hcon:=AnyQ.slices_SortFunc_eq Try.sortAssets 3 Try.isAgg71 Try.sizeOf71 encA encA_len encA_one cmpN pk_swo 81 #[] g 0 cap l0.toArray w eg (pk_lays g 0 l0.toArray.size w) (pk_holds ho0) hlt (by simpa using hl)
   change Calls Try.prog 80 _ _ _ at hcon
   rw [show l0.toArray.size=l0.length by simp] at hcon
   refine hcon.mono ?_
   rintro e w' ⟨rfl,n,os,rfl⟩
   have hs:(pdq (ltOf cmpN) l0.toArray 0 l0.length (Lib.bitLen l0.length) true true)=(sortA l0).toArray:=by simp [sortA]
   rw [hs]
   have hg:w.grownBy (sortWorldK encA 3 w g 0 n (sortA l0).toArray os) (some g):=pk_grown _
   have hP:P0_ g:=ho0.1 g (by simp [Value.ownBlock])
   exact⟨rfl,Kd.R_mono (pk_sorted ho0 (sortA_len l0)) (fun _ hk=>.inl hk),hB.grown hg hB.size (fun k hk=>by cases hk;exact hge),Kept.of_grown hg (Kept.refl w _) (fun k hk=>by cases hk;exact .inl hP)⟩
  ·obtain rfl:l0 = []:=by cases l0 with|nil=>rfl|cons a l=>simp at he
   have hs:sortA [] = []:=by
    have:=sortA_len []
    exact List.length_eq_zero_iff.1 (by simpa using this)
   rw [hs]
   obtain⟨A,c,rfl⟩:=Kd.R_slice ho0
   have hcon:=pk_sort0 A c (.func (.func 81) #[] #[]) w
   refine hcon.mono ?_
   rintro e w' ⟨rfl,rfl⟩
   exact⟨rfl,Kd.R_mono ho0 (fun _ hk=>.inl hk),hB,Kept.refl _ _⟩
 ·rw [if_neg hl] at h
  cases h
end

/-! ### impl_Pack: function 50 -/
def impl_Pack.l0 : Nat → List (List Int) → List (S71) → List ByteArray → Int → Int → Option ((List (S71)) × Bool)
 | 0, _, _, _, _, _ => none
 | k + 1, x1, x6, x15, x16, x17 => if x17 < x16 then (if 0 ≤ x17 then (if x17 < (x15.length : Int) then (if x17 < (x1.length : Int) then ((impl_Digest.f k (rd_L5 x1 x17)).bind fun t314 => (if x6.length < 4398046511104 then (impl_Pack.l0 k x1 (x6 ++ [(⟨rdOf ByteArray.empty x15 x17, ((rd_L5 x1 x17).length : Int), t314⟩ : S71)]) x15 x16 (wrap64 (x17 + 1))) else (none))) else (none)) else (none)) else (none)) else ((pk_sort.f x6).bind fun t318 => ((impl_PackOk.f k t318).bind fun t319 => (if t319 = true then (some (t318, true)) else (some (([] : List (S71)), false)))))
def impl_Pack.f (k : Nat) (l0 : List ByteArray) (l1 : List (List Int)) : Option ((List (S71)) × Bool) := if (l0.length : Int) = (l1.length : Int) then (impl_Pack.l0 k l1 (([] : List (S71))) l0 (l0.length : Int) 0) else (some (([] : List (S71)), false))
theorem impl_Pack.mono_l : ∀ k, (∀ y0 y1 y2 y3 y4, LeO (impl_Pack.l0 k y0 y1 y2 y3 y4) (impl_Pack.l0 (k + 1) y0 y1 y2 y3 y4))
 | 0 => fun _ _ _ _ _ r h => by simp [impl_Pack.l0] at h
 | k + 1 => by
  have ih0:=impl_Pack.mono_l k
  ·intro y0 y1 y2 y3 y4
   unfold impl_Pack.l0
   repeat' first
   | (with_reducible exact ih0 _ _ _ _ _)
   | (with_reducible exact impl_Digest.mono _ _)
   | (with_reducible exact impl_PackOk.mono _ _)
   | (with_reducible exact LeO.refl _)
   | (with_reducible exact LeO.none _)
   | (with_reducible refine LeO.ite ?_ ?_)
   | (with_reducible refine LeO.bind ?_ (fun _ => ?_))
   | exact ih0 _ _ _ _ _
   | exact impl_Digest.mono _ _
   | exact impl_PackOk.mono _ _
   | exact LeO.none _
   | refine LeO.ite ?_ ?_
   | refine LeO.bind ?_ (fun _ => ?_)
theorem impl_Pack.mono : ∀ a0 a1 k, LeO (impl_Pack.f k a0 a1) (impl_Pack.f (k + 1) a0 a1) := by
 intro a0 a1 k
 have ih0:=impl_Pack.mono_l k
 unfold impl_Pack.f
 repeat' first
   | (with_reducible exact ih0 _ _ _ _ _)
   | (with_reducible exact impl_Digest.mono _ _)
   | (with_reducible exact impl_PackOk.mono _ _)
   | (with_reducible exact LeO.refl _)
   | (with_reducible exact LeO.none _)
   | (with_reducible refine LeO.ite ?_ ?_)
   | (with_reducible refine LeO.bind ?_ (fun _ => ?_))
   | exact ih0 _ _ _ _ _
   | exact impl_Digest.mono _ _
   | exact impl_PackOk.mono _ _
   | exact LeO.none _
   | refine LeO.ite ?_ ?_
   | refine LeO.bind ?_ (fun _ => ?_)
def impl_Pack.T7 : Bool × List (List Nat × List Nat) := (true, [([], []), ([], []), ([], []), ([], []), ([2, 3], [2, 3]), ([4], [4]), ([5], [5]), ([], []), ([], []), ([7, 8], [7, 8]), ([9], [9]), ([10], [10]), ([1, 6, 11], [1, 6, 11]), ([12], [12]), ([0, 13, 11], [0, 13]), ([14, 14, 0, 1, 2, 3, 4, 5, 6, 7, 8, 9, 10, 11, 12, 13, 14], [0, 14])])
def impl_Pack.B7 : List Nat := [0, 0, 0, 0, 12, 28, 60, 0, 0, 384, 896, 1920, 4094, 8190, 16383, 32767]
theorem impl_Pack.tab7 : rtab .any (opsOf Try.f50 7) = impl_Pack.T7 := by kernel_rfl
theorem impl_Pack.bits7 : waitsOk impl_Pack.T7.2 impl_Pack.B7 = true := by kernel_rfl
set_option maxHeartbeats 8000000 in
set_option maxRecDepth 100000 in
theorem impl_Pack.calls (k : Nat) (A0 : Option Addr) (c0 : Nat) (l0 : List ByteArray) (A1 : Option Addr) (c1 : Nat) (l1 : List (List Int)) (r1 : List (S71)) (r2 : Bool) (w : World) (hr0 : Kd.C Kd.string w A0 l0.length l0) (hc0 : l0.length ≤ c0) (hr1 : Kd.C (Kd.slice 5 (Kd.int .u8)) w A1 l1.length l1) (hc1 : l1.length ≤ c1) (h : impl_Pack.f k l0 l1 = some (r1, r2)) :
  Calls Try.prog 50 #[.slice A0 l0.length c0,.slice A1 l1.length c1] w fun e w'=>∃ v0_:Value,e=.returned (.tuple #[v0_,.bool r2])∧Kd.R k71 71 w' w.heap.size (fun _=>True) v0_ r1∧Below w.heap.size w w':=by
 have hu71:=Try.underlying71
 have HR0:=Ja hr0
 have HC0:=Ja hc0
 clear hr0 hc0
 have HR1:=Ja hr1
 have HC1:=Ja hc1
 clear hr1 hc1
 have HB:=Ja (Below.refl w.heap.size w)
 have H:(if (l0.length:Int)=(l1.length:Int) then (impl_Pack.l0 k l1 (([]:List (S71))) l0 (l0.length:Int) 0) else (some (([]:List (S71)),false)))=some (r1,r2):=h
 clear h
 by_cases c3:(l0.length:Int)=(l1.length:Int)
 ·rw [if_pos c3] at H
  have c3b0:((l0.length:Int) == (l1.length:Int))=true:=beq_iff_eq.mpr c3
  have c3b1:((l0.length:Int) != (l1.length:Int))=false:=bne_eq_false_iff_eq.mpr c3
  have c3b2:(l0.length == l1.length)=true:=by first|simpa using c3|(simp at c3 ⊢;omega)
  clear c3
  obtain⟨y308,hy308⟩:∃ y_:List (S71),y_=(([]:List (S71))):=⟨_,rfl⟩
  replace H:(impl_Pack.l0 k l1 y308 l0 (l0.length:Int) 0)=some (r1,r2):=by first|(rw [hy308];with_reducible exact H)|(have H2_:=(Option.bind_some _ _).symm.trans H;rw [hy308];with_reducible exact H2_)|(have H2_:=(Option.bind_some _ _).symm.trans H;with_reducible exact H2_)|with_reducible exact H|(rw [hy308];exact H)|exact H
  have Ny308:=Ja hy308
  clear hy308
  have H':=Ja H
  clear H
  go_enter Try.func50,Try.ntmps50
  go_wp2_with (first|((with_reducible refine gate_dst (N:=14) rfl ?_);refine Kd.R_lit k71 _ 71 ?hg (N:=14) ?hd (xs:=([]:List (S71))) (inner:=[]) (ok:=fun _=>True) (okp:=fun _=>True) ?hr ?hp (fun _ hk=>hk) trivial (Below.refl _ _) (Nat.le_refl _) (by simp) ?_;(case hd=>rfl);(case hg=>rfl);(case hr=>first|(go_simp;done)|(go_simp;rfl));(case hp=>exact(Reps.none _ _));intro v309 w4 ho5 hb hg_ hnew_;clear hg_ hnew_;(first|rw [← Ny308.out] at ho5|(simp only [Int.reduceToNat] at ho5;rw [← Ny308.out] at ho5));have n0_:=Ja (Kd.R_lower ho5 (below_size (by repeat(first|(with_reducible first|exact HB.out|apply below_alloc|apply Jb|apply below_drew1)|exact HB.out))));have n1_:=Ja (below_step (by repeat(first|(with_reducible first|exact HB.out|apply below_alloc|apply Jb|apply below_drew1)|exact HB.out)) hb);clear HB;have HO310:=n0_;have HB:=n1_;clear n0_ n1_;clear hb ho5))
  go_loopg [6,17] k (fun kq v6 v17 w'=>∃ (x6_1:List (S71)) (x17_1:Int),v17=.int .i64 x17_1∧Aside0 (impl_Pack.l0 kq l1 x6_1 l0 (l0.length:Int) x17_1=some (r1,r2))∧Aside0 (kq≤k)∧Aside0 (Kd.R k71 71 w' w.heap.size (fun _=>True) v6 x6_1)∧Aside0 (Below w.heap.size w w'))
  case atStart=>exact⟨(y308),(0),(by first|rfl|(simp;done)|(simp [*];done)),H',⟨Nat.le_refl _⟩,⟨by(with_reducible repeat(first|apply Kd.R_alloc|apply Kd.R_drewN|apply Kd.R_drew));exact HO310.out⟩,⟨by repeat(first|(with_reducible first|exact HB.out|apply below_alloc|apply Jb|apply below_drew1)|exact HB.out)⟩⟩
  case round=>
   clear H'
   try clear c1
   try clear p2
   try clear c3
   try clear c3b0
   try clear c3b1
   try clear c3b2
   try clear c5
   obtain⟨x6_1,x17_1,rfl,HA,HK1,HO_6,HB⟩:=hrel
   cases gk with
   | zero => exact absurd HA.out (by simp [impl_Pack.l0])
   | succ k1 =>
    have H:=HA.out
    clear HA
    simp only [impl_Pack.l0] at H
    by_cases c6:x17_1 < (l0.length:Int)
    ·rw [if_pos c6] at H
     have c6b0:decide (x17_1 < (l0.length:Int))=true:=decide_eq_true c6
     clear c6
     by_cases c7:0≤x17_1
     ·rw [if_pos c7] at H
      have c7b0:decide (0≤x17_1)=true:=decide_eq_true c7
      clear c7
      by_cases c8:x17_1 < (l0.length:Int)
      ·rw [if_pos c8] at H
       have c8b0:decide (x17_1 < (l0.length:Int))=true:=decide_eq_true c8
       clear c8
       by_cases c9:x17_1 < (l1.length:Int)
       ·rw [if_pos c9] at H
        have c9b0:decide (x17_1 < (l1.length:Int))=true:=decide_eq_true c9
        clear c9
        replace H:=Option.bind_eq_some_iff.mp H
        obtain⟨t314,A100,H⟩:=H
        replace H:(if x6_1.length < 4398046511104 then (impl_Pack.l0 k1 l1 (x6_1 ++ [(⟨rdOf ByteArray.empty l0 x17_1,((rd_L5 l1 x17_1).length:Int),t314⟩:S71)]) l0 (l0.length:Int) (wrap64 (x17_1+1))) else (none))=some (r1,r2):=H
        have A10:=Ja A100
        clear A100
        by_cases c11:x6_1.length < 4398046511104
        ·rw [if_pos c11] at H
         have LMc11:=Ja c11
         clear c11
         obtain⟨y315,hy315⟩:∃ y_:List (S71),y_=(x6_1 ++ [(⟨rdOf ByteArray.empty l0 x17_1,((rd_L5 l1 x17_1).length:Int),t314⟩:S71)]):=⟨_,rfl⟩
         replace H:(impl_Pack.l0 k1 l1 y315 l0 (l0.length:Int) (wrap64 (x17_1+1)))=some (r1,r2):=by first|(rw [hy315];with_reducible exact H)|(have H2_:=(Option.bind_some _ _).symm.trans H;rw [hy315];with_reducible exact H2_)|(have H2_:=(Option.bind_some _ _).symm.trans H;with_reducible exact H2_)|with_reducible exact H|(rw [hy315];exact H)|exact H
         have Ny315:=Ja hy315
         clear hy315
         have H':=Ja H
         clear H
         have p311:0≤(x17_1:Int):=of_decide_eq_true (by first|(with_reducible assumption)|assumption)
         have q311:x17_1 < (l0.length:Int):=of_decide_eq_true (by first|(with_reducible assumption)|assumption)
         obtain⟨ad311,e311,hx311_0⟩:=Kd.at_string HR0.out x17_1 p311 q311
         cases e311
         replace hx311_0:=(HB.out.cell (World.block_lt_of_cell? w _ hx311_0)).trans hx311_0
         replace p311:=eq_true p311
         replace q311:=eq_true q311
         try go_wp2
         have n0_:=Ja (Kd.R_drew HO_6.out)
         have n1_:=Ja (below_drew1 HB.out)
         clear HO_6
         clear HB
         have HO_6:=n0_
         have HB:=n1_
         clear n0_ n1_
         have p312:0≤(x17_1:Int):=of_decide_eq_true (by first|(with_reducible assumption)|assumption)
         have q312:x17_1 < (l1.length:Int):=of_decide_eq_true (by first|(with_reducible assumption)|assumption)
         obtain⟨ad312,A312_0,c312_0,e312,hx312_0,hl312_0,hi312_0⟩:=at_L5 HR1.out x17_1 p312 q312
         have hw312_0:=hx312_0
         cases e312
         replace hx312_0:=(HB.out.cell (World.block_lt_of_cell? w _ hx312_0)).trans hx312_0
         have HR312_0:=Ja hi312_0
         have HC312_0:=Ja hl312_0
         clear hi312_0 hl312_0
         replace p312:=eq_true p312
         replace q312:=eq_true q312
         have p313:0≤(x17_1:Int):=of_decide_eq_true (by first|(with_reducible assumption)|assumption)
         have q313:x17_1 < (l1.length:Int):=of_decide_eq_true (by first|(with_reducible assumption)|assumption)
         obtain⟨ad313,A313_0,c313_0,e313,hx313_0,hl313_0,hi313_0⟩:=at_L5 HR1.out x17_1 p313 q313
         have hw313_0:=hx313_0
         obtain rfl:ad312=ad313:=(by injection e313)
         replace hx313_0:=(HB.out.cell (World.block_lt_of_cell? w _ hx313_0)).trans hx313_0
         have HR313_0:=Ja hi313_0
         have HC313_0:=Ja hl313_0
         clear hi313_0 hl313_0
         replace p313:=eq_true p313
         replace q313:=eq_true q313
         have ea_:=Option.some.inj (hx312_0.symm.trans hx313_0)
         injection ea_ with ea_ en_ ec_
         subst ea_
         subst ec_
         clear en_
         refine start_ (n:=16) (S:=fun w'=>w'.cell? (ad312.add (x17_1).toNat)=some (.slice A312_0 (rd_L5 l1 x17_1).length c312_0)∧w'.cell? (ad312.add (x17_1).toNat)=some (.slice A312_0 (rd_L5 l1 x17_1).length c312_0)) (ds:=[]) #[false,false,false,false,false,false,false,false,false,false,false,false,false,false,false,false] (by kernel_rfl) rfl rfl ⟨((HB.out.cell (World.block_lt_of_cell? w _ hw312_0)).trans hw312_0),((HB.out.cell (World.block_lt_of_cell? w _ hw313_0)).trans hw313_0)⟩ (fun hHeld=>?_);refine with_tabW impl_Pack.tab7 impl_Pack.bits7 (fun HT_ HW_=>?_)
         generalize wr.drew=w12 at HO_6 HB HR312_0 HR313_0 hx312_0 hx313_0 hHeld ⊢
         refine pure_ (i:=0) (N:=some 22) (v:=?_) (a':=?_) #[true,false,false,false,false,false,false,false,false,false,false,false,false,false,false,false] rfl rfl (any_of HT_.out (by kernel_rfl)) (fun _ _ _ h=>h) (Or.inl ⟨by rfl,?_⟩) ?_ ?_
         rotate_left
         ·intro w'
          go_simp
          with_reducible rfl
         rotate_left
         ·simp only [Act.put,List.setIfInBounds_toArray,List.set_cons_zero,List.set_cons_succ,i64_w,i32_w]
          rfl
         refine pure_ (i:=1) (N:=some 23) (v:=?_) (a':=?_) #[true,true,false,false,false,false,false,false,false,false,false,false,false,false,false,false] rfl rfl (any_of HT_.out (by kernel_rfl)) (fun _ _ _ h=>h) (Or.inl ⟨by rfl,?_⟩) ?_ ?_
         rotate_left
         ·intro w'
          go_simp
          with_reducible rfl
         rotate_left
         ·simp only [Act.put,List.setIfInBounds_toArray,List.set_cons_zero,List.set_cons_succ,i64_w,i32_w]
          rfl
         refine pure_ (i:=2) (N:=some 24) (v:=?_) (a':=?_) #[true,true,true,false,false,false,false,false,false,false,false,false,false,false,false,false] rfl rfl (any_of HT_.out (by kernel_rfl)) (fun _ _ _ h=>h) (Or.inl ⟨by rfl,?_⟩) ?_ ?_
         rotate_left
         ·intro w'
          go_simp
          with_reducible rfl
         rotate_left
         ·simp only [Act.put,List.setIfInBounds_toArray,List.set_cons_zero,List.set_cons_succ,i64_w,i32_w]
          rfl
         refine pure_ (i:=3) (N:=some 25) (v:=?_) (a':=?_) #[true,true,true,true,false,false,false,false,false,false,false,false,false,false,false,false] rfl rfl (any_of HT_.out (by kernel_rfl)) (fun _ _ _ h=>h) (Or.inl ⟨by rfl,?_⟩) ?_ ?_
         rotate_left
         ·intro w'
          go_simp
          with_reducible rfl
         rotate_left
         ·simp only [Act.put,List.setIfInBounds_toArray,List.set_cons_zero,List.set_cons_succ,i64_w,i32_w]
          rfl
         refine pure_ (i:=4) (N:=some 26) (v:=?_) (a':=?_) #[true,true,true,true,true,false,false,false,false,false,false,false,false,false,false,false] rfl rfl (any_of HT_.out (by kernel_rfl)) (fun _ _ _ h=>h) (Or.inl ⟨by rfl,?_⟩) ?_ ?_
         rotate_left
         ·intro w'
          go_simp
          with_reducible rfl
         rotate_left
         ·simp only [Act.put,List.setIfInBounds_toArray,List.set_cons_zero,List.set_cons_succ,i64_w,i32_w]
          rfl
         refine pure_ (i:=7) (N:=some 29) (v:=?_) (a':=?_) #[true,true,true,true,true,false,false,true,false,false,false,false,false,false,false,false] rfl rfl (any_of HT_.out (by kernel_rfl)) (fun _ _ _ h=>h) (Or.inl ⟨by rfl,?_⟩) ?_ ?_
         rotate_left
         ·intro w'
          go_simp
          with_reducible rfl
         rotate_left
         ·simp only [Act.put,List.setIfInBounds_toArray,List.set_cons_zero,List.set_cons_succ,i64_w,i32_w]
          rfl
         refine pure_ (i:=8) (N:=some 30) (v:=?_) (a':=?_) #[true,true,true,true,true,false,false,true,true,false,false,false,false,false,false,false] rfl rfl (any_of HT_.out (by kernel_rfl)) (fun _ _ _ h=>h) (Or.inl ⟨by rfl,?_⟩) ?_ ?_
         rotate_left
         ·intro w'
          go_simp
          with_reducible rfl
         rotate_left
         ·simp only [Act.put,List.setIfInBounds_toArray,List.set_cons_zero,List.set_cons_succ,i64_w,i32_w]
          rfl
         refine pure_ (i:=9) (N:=some 31) (v:=?_) (a':=?_) #[true,true,true,true,true,false,false,true,true,true,false,false,false,false,false,false] rfl rfl (any_of HT_.out (by kernel_rfl)) (fun _ _ _ h=>h) (Or.inl ⟨by rfl,?_⟩) ?_ ?_
         rotate_left
         ·intro w'
          go_simp
          with_reducible rfl
         rotate_left
         ·simp only [Act.put,List.setIfInBounds_toArray,List.set_cons_zero,List.set_cons_succ,i64_w,i32_w]
          rfl
         refine take_ (i:=5) (N:=some 27) (v:=?_) (a':=?_) #[true,true,true,true,true,true,false,true,true,true,false,false,false,false,false,false] rfl rfl (take_ofW HT_.out HW_.out (by kernel_rfl)) (fun _ _ _ h=>h) (Or.inl ⟨by rfl,?_⟩) hHeld ?_ ?_
         rotate_left
         ·rintro w' ⟨s0,s1⟩
          go_simp
          with_reducible rfl
         rotate_left
         ·simp only [Act.put,List.setIfInBounds_toArray,List.set_cons_zero,List.set_cons_succ,i64_w,i32_w]
          rfl
         refine pure_ (i:=6) (N:=some 28) (v:=?_) (a':=?_) #[true,true,true,true,true,true,true,true,true,true,false,false,false,false,false,false] rfl rfl (any_of HT_.out (by kernel_rfl)) (fun _ _ _ h=>h) (Or.inl ⟨by rfl,?_⟩) ?_ ?_
         rotate_left
         ·intro w'
          go_simp
          with_reducible rfl
         rotate_left
         ·simp only [Act.put,List.setIfInBounds_toArray,List.set_cons_zero,List.set_cons_succ,i64_w,i32_w]
          rfl
         refine take_ (i:=10) (N:=some 32) (v:=?_) (a':=?_) #[true,true,true,true,true,true,true,true,true,true,true,false,false,false,false,false] rfl rfl (take_ofW HT_.out HW_.out (by kernel_rfl)) (fun _ _ _ h=>h) (Or.inl ⟨by rfl,?_⟩) hHeld ?_ ?_
         rotate_left
         ·rintro w' ⟨s0,s1⟩
          go_simp
          with_reducible rfl
         rotate_left
         ·simp only [Act.put,List.setIfInBounds_toArray,List.set_cons_zero,List.set_cons_succ,i64_w,i32_w]
          rfl
         refine one_ (i:=11) (N:=some 33) #[true,true,true,true,true,true,true,true,true,true,true,true,false,false,false,false] rfl rfl (one_of HT_.out (by kernel_rfl)) (by decide) (fun K hK=>?_)
         refine goes_ Try.func15 (by kernel_rfl) rfl #[.slice A312_0 (rd_L5 l1 x17_1).length c312_0] (by rfl) rfl rfl (by(try simp only [List.map_toArray,List.map_cons,List.map_nil]);first|done|rfl|(simp only [List.length_drop,List.length_take];rfl)) ?_
         with_reducible refine(impl_Digest.calls k1 _ _ (rd_L5 l1 x17_1) t314 _ ?side1 ?side2 A10.out).mono ?_
         (case side1=>repeat(first|exact(Kd.C_below HR313_0.out HB.out)|(with_reducible refine Kd.C_alloc ?_ _)|(with_reducible refine Kd.C_drewN ?_ _)|(with_reducible refine Kd.C_drew ?_)))
         (case side2=>exact HC313_0.out)
         rintro e w13 ⟨rfl,hb⟩
         refine⟨_,rfl,?_⟩
         have n0_:=Ja (Kd.R_below (by(with_reducible repeat(first|apply Kd.R_alloc|apply Kd.R_drewN|apply Kd.R_drew));exact HO_6.out) hb)
         have n1_:=Ja (below_step (by repeat(first|(with_reducible first|exact HB.out|apply below_alloc|apply Jb|apply below_drew1)|exact HB.out)) hb)
         clear HO_6
         clear HB
         have HO_6:=n0_
         have HB:=n1_
         clear n0_ n1_
         (try clear hb)
         (try clear hb2)
         (try clear hk)
         (try clear hi)
         refine hK.out _ _ ⟨((HB.out.cell (World.block_lt_of_cell? w _ hw312_0)).trans hw312_0),((HB.out.cell (World.block_lt_of_cell? w _ hw313_0)).trans hw313_0)⟩ (fun hHeld=>?_)
         clear hK K
         refine norm_ (a':=?_) ?_ ?_
         rotate_left
         ·show Act.put _ (some 33) _=_
          simp only [Act.put,List.setIfInBounds_toArray,List.set_cons_zero,List.set_cons_succ,i64_w,i32_w]
          rfl
         refine pure_ (i:=12) (N:=some 34) (v:=?_) (a':=?_) #[true,true,true,true,true,true,true,true,true,true,true,true,true,false,false,false] rfl rfl (any_of HT_.out (by kernel_rfl)) (fun _ _ _ h=>h) (Or.inl ⟨by rfl,?_⟩) ?_ ?_
         rotate_left
         ·intro w'
          go_simp
          with_reducible rfl
         rotate_left
         ·simp only [Act.put,List.setIfInBounds_toArray,List.set_cons_zero,List.set_cons_succ,i64_w,i32_w]
          rfl
         refine one_ (i:=13) (N:=some 35) #[true,true,true,true,true,true,true,true,true,true,true,true,true,true,false,false] rfl rfl (one_of HT_.out (by kernel_rfl)) (by decide) (fun K hK=>?_)
         refine value_ (w1:=?_) (v:=?_) (by rfl) rfl ?_ ?_
         rotate_left 2
         ·go_simp
          constructor
          ·rfl
          ·rfl
         refine hK.out _ _ ⟨(World.cell?_alloc_lt _ _ _ (World.block_lt_of_cell? _ _ (((HB.out.cell (World.block_lt_of_cell? w _ hw312_0)).trans hw312_0)))).trans (((HB.out.cell (World.block_lt_of_cell? w _ hw312_0)).trans hw312_0)),(World.cell?_alloc_lt _ _ _ (World.block_lt_of_cell? _ _ (((HB.out.cell (World.block_lt_of_cell? w _ hw313_0)).trans hw313_0)))).trans (((HB.out.cell (World.block_lt_of_cell? w _ hw313_0)).trans hw313_0))⟩ (fun hHeld=>?_)
         clear hK K
         refine norm_ (a':=?_) ?_ ?_
         rotate_left
         ·show Act.put _ (some 35) _=_
          simp only [Act.put,List.setIfInBounds_toArray,List.set_cons_zero,List.set_cons_succ,i64_w,i32_w]
          rfl
         refine one_ (i:=14) (N:=some 36) #[true,true,true,true,true,true,true,true,true,true,true,true,true,true,true,false] rfl rfl (one_of HT_.out (by kernel_rfl)) (by decide) (fun K hK=>?_)
         refine Kd.R_append_step k71 (w0:=w) w.heap.size (by rfl) (.tmp 22) (.tmp 35) 40 71 (.agg #[(.string ⟨#[]⟩),(.int .i64 0),(.int .i64 0)]) 32 rfl Try.underlying40 info71 rfl (by decide) (by omega) u6 x6_1 (⟨rdOf ByteArray.empty l0 x17_1,((rd_L5 l1 x17_1).length:Int),t314⟩:S71) [.string (rdOf ByteArray.empty l0 x17_1),.int .i64 ((rd_L5 l1 x17_1).length:Int),.int .i64 t314] (fun _=>True) (fun _=>False) rfl rfl ?aP (fun _ hk=>hk.elim) ?aF ?aO ?aB ?aS ?aL ?_
         (case aP=>exact k71_mkM _ _ _ (⟨rdOf ByteArray.empty l0 x17_1,((rd_L5 l1 x17_1).length:Int),t314⟩:S71))
         (case aB=>exact(by repeat(first|(with_reducible first|exact HB.out|apply below_alloc|apply Jb|apply below_drew1)|exact HB.out)))
         (case aF=>exact(fun _ _=>trivial))
         (case aO=>exact(by(with_reducible repeat(first|apply Kd.R_alloc|apply Kd.R_drewN|apply Kd.R_drew));exact HO_6.out))
         (case aS=>exact(below_size (by repeat(first|(with_reducible first|exact HB.out|apply below_alloc|apply Jb|apply below_drew1)|exact HB.out))))
         (case aL=>have:=LMc11.out;omega)
         intro v316 w14 ho hb hg hat
         rw [← Ny315.out] at ho
         have n0_:=Ja (hb)
         have n1_:=Ja (ho)
         clear HB
         clear HO_6
         have HB:=n0_
         have HO317:=n1_
         clear n0_ n1_
         clear ho hb hg hat
         refine hK.out _ _ ⟨((HB.out.cell (World.block_lt_of_cell? w _ hw312_0)).trans hw312_0),((HB.out.cell (World.block_lt_of_cell? w _ hw313_0)).trans hw313_0)⟩ (fun hHeld=>?_)
         clear hK K
         refine norm_ (a':=?_) ?_ ?_
         rotate_left
         ·show Act.put _ (some 36) _=_
          simp only [Act.put,List.setIfInBounds_toArray,List.set_cons_zero,List.set_cons_succ,i64_w,i32_w]
          rfl
         refine pure_ (i:=15) (N:=some 6) (v:=?_) (a':=?_) #[true,true,true,true,true,true,true,true,true,true,true,true,true,true,true,true] rfl rfl (any_of HT_.out (by kernel_rfl)) (fun _ _ _ h=>h) (Or.inl ⟨by rfl,?_⟩) ?_ ?_
         rotate_left
         ·intro w'
          go_simp
          with_reducible rfl
         rotate_left
         ·simp only [Act.put,List.setIfInBounds_toArray,List.set_cons_zero,List.set_cons_succ,i64_w,i32_w]
          rfl
         refine done_ (done_of HT_.out (by kernel_rfl)) ?_
         try go_wp2
         go_roundg k1
         case measure=>have:=HK1.out;omega
         case rel=>exact⟨(y315),(wrap64 (x17_1+1)),(by first|rfl|(simp;done)|(simp [*];done)),H',⟨by have:=HK1.out;omega⟩,⟨by(with_reducible repeat(first|apply Kd.R_alloc|apply Kd.R_drewN|apply Kd.R_drew));exact HO317.out⟩,⟨by repeat(first|(with_reducible first|exact HB.out|apply below_alloc|apply Jb|apply below_drew1)|exact HB.out)⟩⟩
        ·rw [if_neg c11] at H
         exact absurd H (by simp)
       ·rw [if_neg c9] at H
        exact absurd H (by simp)
      ·rw [if_neg c8] at H
       exact absurd H (by simp)
     ·rw [if_neg c7] at H
      exact absurd H (by simp)
    ·rw [if_neg c6] at H
     have c6b0:decide (x17_1 < (l0.length:Int))=false:=decide_eq_false c6
     clear c6
     replace H:=Option.bind_eq_some_iff.mp H
     obtain⟨t318,A150,H⟩:=H
     replace H:((impl_PackOk.f k1 t318).bind fun t319=>(if t319=true then (some (t318,true)) else (some (([]:List (S71)),false))))=some (r1,r2):=H
     have A15:=Ja A150
     clear A150
     replace H:=Option.bind_eq_some_iff.mp H
     obtain⟨t319,A160,H⟩:=H
     replace H:(if t319=true then (some (t318,true)) else (some (([]:List (S71)),false)))=some (r1,r2):=H
     have A16:=Ja A160
     clear A160
     by_cases c17:t319=true
     ·subst c17
      have H1:(some (t318,true))=some (r1,r2):=by rw [if_pos rfl] at H;exact H
      clear H
      have H:=H1
      clear H1
      simp only [Option.some.injEq,Prod.mk.injEq] at H
      obtain⟨rfl,rfl⟩:=H
      obtain⟨Ao18,co18,eo18⟩:=Kd.R_slice HO_6.out
      subst eo18
      go_wp2_with (first|((with_reducible refine gate_callee (f:=80) rfl ?_);refine goesL_ (some 39) rfl rfl Try.func80 (by kernel_rfl) rfl #[.slice Ao18 x6_1.length co18,.func (.func 81) #[] #[]] rfl (by(try simp only [List.map_toArray,List.map_cons,List.map_nil]);first|done|rfl|(simp only [List.length_drop,List.length_take];rfl)) ?_;(with_reducible refine(pk_sort.calls (fun k_=>some k_=(.slice Ao18 x6_1.length co18:Value).ownBlock) (.slice Ao18 x6_1.length co18) x6_1 t318 w _ ?side1 ?side2 A15.out).mono ?_);(case side1=>repeat(first|(with_reducible first|exact HB.out|apply below_alloc|apply Jb|apply below_drew1)|exact HB.out));(case side2=>exact Kd.R_tight rfl HO_6.out);rintro e w19 ⟨rfl,hy0,hb,hkp⟩;refine⟨_,rfl,?_⟩;have n0_:=Ja (Kd.R_reok rfl hy0 (fun k_ e_=>HO_6.out.1 k_ e_));have n1_:=Ja (hb);clear HO_6;clear HB;have HO_6:=n0_;have HB:=n1_;clear n0_ n1_;(try clear hb);(try clear hkp);(try clear hy0))|((with_reducible refine gate_callee (f:=27) rfl ?_);refine goesL_ (some 41) rfl rfl Try.func27 (by kernel_rfl) rfl #[.slice Ao18 t318.length co18] rfl (by(try simp only [List.map_toArray,List.map_cons,List.map_nil]);first|done|(rw [show t318.length=x6_1.length from(Kd.R_reads' HO_6.out).1.symm] <;> rfl)|rfl|(simp only [List.length_drop,List.length_take];rfl)) ?_;(with_reducible refine(impl_PackOk.calls k1 _ _ t318 true _ ?side1 ?side2 A16.out).mono ?_);(case side1=>repeat(first|exact(Kd.R_reads' HO_6.out).2.2|(with_reducible refine Kd.C_alloc ?_ _)|(with_reducible refine Kd.C_drewN ?_ _)|(with_reducible refine Kd.C_drew ?_)));(case side2=>rw [show t318.length=x6_1.length from(Kd.R_reads' HO_6.out).1.symm];exact(Kd.R_reads' HO_6.out).2.1);rintro e w20 ⟨rfl,hb⟩;refine⟨_,rfl,?_⟩;have n0_:=Ja (Kd.R_below (by(with_reducible repeat(first|apply Kd.R_alloc|apply Kd.R_drewN|apply Kd.R_drew));exact HO_6.out) hb);have n1_:=Ja (below_step (by repeat(first|(with_reducible first|exact HB.out|apply below_alloc|apply Jb|apply below_drew1)|exact HB.out)) hb);clear HO_6;clear HB;have HO_6:=n0_;have HB:=n1_;clear n0_ n1_;(try clear hb);(try clear hb2);(try clear hk);(try clear hi)))
      go_ret2
      exact⟨_,by first|rfl|(simp [errW_none,errW_some] <;> rfl)|(simp [*,errW_none,errW_some] <;> rfl),by(with_reducible repeat(first|apply Kd.R_alloc|apply Kd.R_drewN|apply Kd.R_drew));exact HO_6.out,by repeat(first|(with_reducible first|exact HB.out|apply below_alloc|apply Jb|apply below_drew1)|exact HB.out)⟩
     ·replace c17:=Bool.eq_false_iff.mpr c17
      subst c17
      have H1:(some (([]:List (S71)),false))=some (r1,r2):=by rw [if_neg (show ¬ (false=true) by decide)] at H;exact H
      clear H
      have H:=H1
      clear H1
      simp only [Option.some.injEq,Prod.mk.injEq] at H
      obtain⟨rfl,rfl⟩:=H
      obtain⟨Ao21,co21,eo21⟩:=Kd.R_slice HO_6.out
      subst eo21
      go_wp2_with (first|((with_reducible refine gate_callee (f:=80) rfl ?_);refine goesL_ (some 39) rfl rfl Try.func80 (by kernel_rfl) rfl #[.slice Ao21 x6_1.length co21,.func (.func 81) #[] #[]] rfl (by(try simp only [List.map_toArray,List.map_cons,List.map_nil]);first|done|rfl|(simp only [List.length_drop,List.length_take];rfl)) ?_;(with_reducible refine(pk_sort.calls (fun k_=>some k_=(.slice Ao21 x6_1.length co21:Value).ownBlock) (.slice Ao21 x6_1.length co21) x6_1 t318 w _ ?side1 ?side2 A15.out).mono ?_);(case side1=>repeat(first|(with_reducible first|exact HB.out|apply below_alloc|apply Jb|apply below_drew1)|exact HB.out));(case side2=>exact Kd.R_tight rfl HO_6.out);rintro e w22 ⟨rfl,hy0,hb,hkp⟩;refine⟨_,rfl,?_⟩;have n0_:=Ja (Kd.R_reok rfl hy0 (fun k_ e_=>HO_6.out.1 k_ e_));have n1_:=Ja (hb);clear HO_6;clear HB;have HO_6:=n0_;have HB:=n1_;clear n0_ n1_;(try clear hb);(try clear hkp);(try clear hy0))|((with_reducible refine gate_callee (f:=27) rfl ?_);refine goesL_ (some 41) rfl rfl Try.func27 (by kernel_rfl) rfl #[.slice Ao21 t318.length co21] rfl (by(try simp only [List.map_toArray,List.map_cons,List.map_nil]);first|done|(rw [show t318.length=x6_1.length from(Kd.R_reads' HO_6.out).1.symm] <;> rfl)|rfl|(simp only [List.length_drop,List.length_take];rfl)) ?_;(with_reducible refine(impl_PackOk.calls k1 _ _ t318 false _ ?side1 ?side2 A16.out).mono ?_);(case side1=>repeat(first|exact(Kd.R_reads' HO_6.out).2.2|(with_reducible refine Kd.C_alloc ?_ _)|(with_reducible refine Kd.C_drewN ?_ _)|(with_reducible refine Kd.C_drew ?_)));(case side2=>rw [show t318.length=x6_1.length from(Kd.R_reads' HO_6.out).1.symm];exact(Kd.R_reads' HO_6.out).2.1);rintro e w23 ⟨rfl,hb⟩;refine⟨_,rfl,?_⟩;have n0_:=Ja (Kd.R_below (by(with_reducible repeat(first|apply Kd.R_alloc|apply Kd.R_drewN|apply Kd.R_drew));exact HO_6.out) hb);have n1_:=Ja (below_step (by repeat(first|(with_reducible first|exact HB.out|apply below_alloc|apply Jb|apply below_drew1)|exact HB.out)) hb);clear HO_6;clear HB;have HO_6:=n0_;have HB:=n1_;clear n0_ n1_;(try clear hb);(try clear hb2);(try clear hk);(try clear hi)))
      go_ret2
      exact⟨_,by first|rfl|(simp [errW_none,errW_some] <;> rfl)|(simp [*,errW_none,errW_some] <;> rfl),by first|exact Kd.R_nil _ _ _ _ _|exact Kd.N_nil _ _ _ _ _|exact Kd.V_nil _ _ _ _ _|exact Kd.Q_nil _ _ _ _ _|exact Kd.S_nil _ _ _ _ _,by repeat(first|(with_reducible first|exact HB.out|apply below_alloc|apply Jb|apply below_drew1)|exact HB.out)⟩
 ·rw [if_neg c3] at H
  have c3b0:((l0.length:Int) == (l1.length:Int))=false:=beq_eq_false_iff_ne.mpr c3
  have c3b1:((l0.length:Int) != (l1.length:Int))=true:=bne_iff_ne.mpr c3
  have c3b2:(l0.length == l1.length)=false:=by first|simpa using c3|(simp at c3 ⊢;omega)
  simp only [Option.some.injEq,Prod.mk.injEq] at H
  obtain⟨rfl,rfl⟩:=H
  go_enter Try.func50,Try.ntmps50
  go_wp2
  go_ret2
  exact⟨_,by first|rfl|(simp [errW_none,errW_some] <;> rfl)|(simp [*,errW_none,errW_some] <;> rfl),by first|exact Kd.R_nil _ _ _ _ _|exact Kd.N_nil _ _ _ _ _|exact Kd.V_nil _ _ _ _ _|exact Kd.Q_nil _ _ _ _ _|exact Kd.S_nil _ _ _ _ _,by repeat(first|(with_reducible first|exact HB.out|apply below_alloc|apply Jb|apply below_drew1)|exact HB.out)⟩

/-! ### spec_Digest: function 13 -/
def spec_Digest.l0 : Nat → List Int → Int → Int → Option (Int)
 | 0, _, _, _ => none
 | k + 1, x0, x3, x4 => if x4 < (x0.length : Int) then (if x4 < 40000 then (if 0 ≤ x4 then (spec_Digest.l0 k x0 (Int.tmod (wrap64 ((wrap64 ((wrap64 (x3 * 257)) + (wrap64 (rd x0 x4)))) + 1)) 1000000007) (wrap64 (x4 + 1))) else (none)) else (some x3)) else (some x3)
def spec_Digest.f (k : Nat) (l0 : List Int) : Option (Int) := spec_Digest.l0 k l0 0 0
theorem spec_Digest.mono_l : ∀ k, (∀ y0 y1 y2, LeO (spec_Digest.l0 k y0 y1 y2) (spec_Digest.l0 (k + 1) y0 y1 y2))
 | 0 => fun _ _ _ r h => by simp [spec_Digest.l0] at h
 | k + 1 => by
  have ih0:=spec_Digest.mono_l k
  ·intro y0 y1 y2
   unfold spec_Digest.l0
   repeat' first
   | (with_reducible exact ih0 _ _ _)
   | (with_reducible exact LeO.refl _)
   | (with_reducible exact LeO.none _)
   | (with_reducible refine LeO.ite ?_ ?_)
   | (with_reducible refine LeO.bind ?_ (fun _ => ?_))
   | exact ih0 _ _ _
   | exact LeO.none _
   | refine LeO.ite ?_ ?_
   | refine LeO.bind ?_ (fun _ => ?_)
theorem spec_Digest.mono : ∀ a0 k, LeO (spec_Digest.f k a0) (spec_Digest.f (k + 1) a0) := by
 intro a0 k
 have ih0:=spec_Digest.mono_l k
 unfold spec_Digest.f
 repeat' first
   | (with_reducible exact ih0 _ _ _)
   | (with_reducible exact LeO.refl _)
   | (with_reducible exact LeO.none _)
   | (with_reducible refine LeO.ite ?_ ?_)
   | (with_reducible refine LeO.bind ?_ (fun _ => ?_))
   | exact ih0 _ _ _
   | exact LeO.none _
   | refine LeO.ite ?_ ?_
   | refine LeO.bind ?_ (fun _ => ?_)
set_option maxHeartbeats 8000000 in
set_option maxRecDepth 100000 in
theorem spec_Digest.calls (k : Nat) (A0 : Option Addr) (c0 : Nat) (l0 : List Int) (r : Int) (w : World) (hr0 : Kd.C (Kd.int .u8) w A0 l0.length l0) (hc0 : l0.length ≤ c0) (h : spec_Digest.f k l0 = some r) :
  Calls Try.prog 13 #[.slice A0 l0.length c0] w fun e w'=>e=.returned (.int .i64 r)∧Drawn0 w w':=by
 have HR0:=Ja hr0
 have HC0:=Ja hc0
 clear hr0 hc0
 have H:(spec_Digest.l0 k l0 0 0)=some r:=h
 clear h
 have H':=Ja H
 clear H
 go_enter Try.func13,Try.ntmps13
 go_wp2
 go_loopg [3,4] k (fun kq v3 v4 w'=>∃ (x3_1:Int) (qa:Int),v3=.int .i64 x3_1∧v4=.int .i64 qa∧Aside0 (spec_Digest.l0 kq l0 x3_1 qa=some r)∧Aside0 (kq≤k)∧Drawn0 w w')
 case atStart=>exact⟨(0),(0),(by first|rfl|(simp;done)|(simp [*];done)),(by first|rfl|(simp;done)|(simp [*];done)),H',⟨Nat.le_refl _⟩,by repeat(first|exact Drawn0.refl _|apply Drawn0.step)⟩
 case round=>
  clear H'
  try clear c1
  obtain⟨x3_1,qa,rfl,rfl,HA,HK1,⟨m1,rfl⟩⟩:=hrel
  cases gk with
  | zero => exact absurd HA.out (by simp [spec_Digest.l0])
  | succ k1 =>
   have H:=HA.out
   clear HA
   simp only [spec_Digest.l0] at H
   by_cases c2:qa < (l0.length:Int)
   ·rw [if_pos c2] at H
    have c2b0:decide (qa < (l0.length:Int))=true:=decide_eq_true c2
    clear c2
    by_cases c3:qa < 40000
    ·rw [if_pos c3] at H
     have c3b0:decide (qa < 40000)=true:=decide_eq_true c3
     clear c3
     by_cases c4:0≤qa
     ·rw [if_pos c4] at H
      have c4b0:decide (0≤qa)=true:=decide_eq_true c4
      clear c4
      have H':=Ja H
      clear H
      have p320:0≤(qa:Int):=of_decide_eq_true (by first|(with_reducible assumption)|assumption)
      have q320:qa < (l0.length:Int):=of_decide_eq_true (by first|(with_reducible assumption)|assumption)
      obtain⟨ad320,e320,hx320_0⟩:=Kd.at_int HR0.out qa p320 q320
      cases e320
      replace p320:=eq_true p320
      replace q320:=eq_true q320
      go_wp2
      go_roundg k1
      case measure=>have:=HK1.out;omega
      case rel=>exact⟨(Int.tmod (wrap64 ((wrap64 ((wrap64 (x3_1*257))+(wrap64 (rd l0 qa))))+1)) 1000000007),(wrap64 (qa+1)),(by first|rfl|(simp;done)|(simp [*];done)),(by first|rfl|(simp;done)|(simp [*];done)),H',⟨by have:=HK1.out;omega⟩,by repeat(first|exact Drawn0.refl _|apply Drawn0.step)⟩
     ·rw [if_neg c4] at H
      exact absurd H (by simp)
    ·rw [if_neg c3] at H
     have c3b0:decide (qa < 40000)=false:=decide_eq_false c3
     clear c3
     obtain rfl:=Option.some.inj H
     go_wp2
     go_ret
     exact⟨by first|rfl|(simp;done)|(simp [*];done),by repeat(first|exact Drawn0.refl _|apply Drawn0.step)⟩
   ·rw [if_neg c2] at H
    have c2b0:decide (qa < (l0.length:Int))=false:=decide_eq_false c2
    clear c2
    obtain rfl:=Option.some.inj H
    go_wp2
    go_ret
    exact⟨by first|rfl|(simp;done)|(simp [*];done),by repeat(first|exact Drawn0.refl _|apply Drawn0.step)⟩

end Go.Proofs.Ytelcpfanjjfgdaa.HFnPacked
