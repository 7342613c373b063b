/-
 From a reading of an argument (DataW.trod) to the printed words' kinds (Kd): what a slice, a struct, a slice of structs and so on hold, as lists and Lean structures.
 Conditions: none beyond what each theorem names.
-/
import Derived.Test.YtidogkjhjmcliaaDoorWWords
import Derived.ProofKit
import Derived.OpenShut
import Derived.Deep.Slices
namespace Go.Proofs.YtidogkjhjmcliaaDoor.RowBase
open Go.ChangeShapes Go.WideShapes Go.ChangeAt Go.RowKit
open Go.Proofs.YtidogkjhjmcliaaDoorW.PrintWords
set_option linter.unusedVariables false
set_option linter.unusedSimpArgs false

def Opn (P : Program) (T : TypeId) {α : Type} (d : Kd α) (Wf : α → Prop) : Prop :=
 ∀ (H : Type) (enc : TypeId × Value → H) (w : World) (fuel : Nat) (cs : List Value) (x : DataW H × List MemPlace),
  DataW.trod enc P w 0 (fun _ => true) true fuel T cs = some x → ∃ y, d.K w y cs ∧ Wf y

theorem Opn.int {P : Program} {T : TypeId} {k : IntKind} (h : P.underlying T = some (.int k)) : Opn P T (Kd.int k) (fun n => (Lit.int k n).wf = true) := by
 intro H enc w fuel cs x hx
 obtain⟨n,rfl,_,hw⟩:=DataW.trod_int h hx
 exact⟨n,rfl,hw⟩
theorem Opn.bool {P : Program} {T : TypeId} (h : P.underlying T = some .bool) : Opn P T Kd.bool (fun _ => True) := by
 intro H enc w fuel cs x hx
 obtain⟨n,rfl,_⟩:=DataW.trod_bool h hx
 exact⟨n,rfl,trivial⟩
theorem Opn.string {P : Program} {T : TypeId} (h : P.underlying T = some .string) : Opn P T Kd.string (fun s => s.size ≤ maxLen) := by
 intro H enc w fuel cs x hx
 obtain⟨n,rfl,_,hs⟩:=DataW.trod_string h hx
 exact⟨n,rfl,hs⟩
theorem Opn.mono {P : Program} {T : TypeId} {α : Type} {d : Kd α} {Wf Wf' : α → Prop} (h : Opn P T d Wf) (hm : ∀ x, Wf x → Wf' x) : Opn P T d Wf' := by
 intro H enc w fuel cs x hx
 obtain⟨y,hy,hw⟩:=h H enc w fuel cs x hx
 exact⟨y,hy,hm y hw⟩

theorem Opn.slice {P : Program} {T E : TypeId} {α : Type} {d : Kd α} {Wf : α → Prop} (h : P.underlying T = some (.slice E)) (hsz : P.cellsOf E = d.sz) (hE : Opn P E d Wf) :
  Opn P T (Kd.slice E d) (fun xs=>xs.length≤maxLen ∧ ∀ x ∈ xs,Wf x):=by
 intro H enc w fuel cs x hx
 rcases Go.Deep.open_slice h hx with ⟨rfl,rfl⟩|⟨a,len,cap,m,n,D,Pl,rfl,_,hlc,hcm,hm,rfl,hel⟩
 ·refine⟨[],⟨none,0,rfl,Nat.le_refl _,rfl,by simp,fun h=>absurd h (by simp)⟩,by simp,fun x hx=>by cases hx⟩
 ·have hmc:m=cap:=by simpa using hm
  subst hmc
  have h1:∀ i,i < len → ∃ y,(∃ cs',w.cells? 0 (a.add (i*P.cellsOf E)) (P.cellsOf E)=some cs'∧d.K w y cs')∧Wf y:=by
   intro i hi
   obtain⟨cs',hc,ht⟩:=hel i (by omega)
   obtain⟨y,hk,hw⟩:=hE H enc w n cs' _ ht
   exact⟨y,⟨cs',hc,hk⟩,hw⟩
  have h2:∃ xs:List α,xs.length=len ∧ ∀ i y,xs[i]? = some y→(∃ cs',w.cells? 0 (a.add (i*P.cellsOf E)) (P.cellsOf E)=some cs'∧d.K w y cs')∧Wf y:=by
   clear hel hm hx
   clear hlc
   induction len with
   | zero => exact ⟨[], rfl, fun i y hy => by simp at hy⟩
   | succ len ih =>
    obtain⟨xs,hl,hp⟩:=ih (fun i hi=>h1 i (by omega))
    obtain⟨y,hy⟩:=h1 len (by omega)
    refine⟨xs ++ [y],by simp [hl],fun i z hz=>?_⟩
    rcases Nat.lt_or_ge i xs.length with hi|hi
    ·rw [List.getElem?_append_left hi] at hz
     exact hp i z hz
    ·have hi':i=xs.length:=by
      have:=(List.getElem?_eq_some_iff.1 hz).1
      simp at this
      omega
     subst hi'
     simp at hz
     subst hz
     rw [hl]
     exact hy
  obtain⟨xs,hl,hp⟩:=h2
  subst hl
  refine⟨xs,⟨some a,m,rfl,hlc,rfl,by unfold maxLen at hcm;omega,fun _=>⟨a,rfl,fun j p hj=>?_⟩⟩,by omega,fun x hx=>?_⟩
  ·obtain⟨⟨cs',hc,hk⟩,_⟩:=hp j p hj
   obtain⟨_,hlen,hcell⟩:=World.cells?_some hc
   rw [hsz] at hlen hcell
   refine⟨cs',hlen,hk,fun i u hu=>?_⟩
   have hi:i < d.sz:=by
    have:=(List.getElem?_eq_some_iff.1 hu).1
    omega
   have:=hcell i hi
   rw [Go.Deep.add_add] at this
   rw [this,hu]
  ·obtain⟨i,hi,rfl⟩:=List.getElem_of_mem hx
   exact(hp i _ (List.getElem?_eq_getElem hi)).2

def OpnF (P : Program) (fs : List Field) (o : Nat) {α : Type} (d : Kd α) (Wf : α → Prop) : Prop :=
 ∀ (H : Type) (enc : TypeId × Value → H) (w : World) (fuel : Nat) (cs : List Value), cs.length = o + d.sz →
  (∀ f ∈ fs, ∃ y, DataW.trod enc P w 0 (fun _ => true) true fuel f.type ((cs.drop f.offset).take (P.cellsOf f.type)) = some y) → ∃ y, d.K w y (cs.drop o) ∧ Wf y

theorem OpnF.one {P : Program} {f : Field} {o : Nat} {α : Type} {d : Kd α} {Wf : α → Prop} (ho : f.offset = o) (hsz : P.cellsOf f.type = d.sz) (h : Opn P f.type d Wf) : OpnF P [f] o d Wf := by
 intro H enc w fuel cs hl hx
 obtain⟨y,hy⟩:=hx f (List.mem_singleton.2 rfl)
 rw [ho,hsz] at hy
 have he:(cs.drop o).take d.sz=cs.drop o:=List.take_of_length_le (by rw [List.length_drop];omega)
 rw [he] at hy
 exact h H enc w fuel _ y hy

theorem OpnF.cons {P : Program} {f : Field} {fs : List Field} {o : Nat} {α β : Type} {d : Kd α} {d' : Kd β} {Wf : α → Prop} {Wf' : β → Prop} (ho : f.offset = o) (hsz : P.cellsOf f.type = d.sz) (h : Opn P f.type d Wf)
  (hs:OpnF P fs (o+d.sz) d' Wf'):OpnF P (f :: fs) o (Kd.pair d d') (fun x=>Wf x.1∧Wf' x.2):=by
 intro H enc w fuel cs hl hx
 have hl':cs.length=o+(d.sz+d'.sz):=hl
 obtain⟨y,hy⟩:=hx f List.mem_cons_self
 rw [ho,hsz] at hy
 obtain⟨a,ha,hwa⟩:=h H enc w fuel _ y hy
 obtain⟨b,hb,hwb⟩:=hs H enc w fuel cs (by omega) (fun f hf=>hx f (List.mem_cons_of_mem _ hf))
 refine⟨(a,b),⟨_,_,?_,ha,hb⟩,hwa,hwb⟩
 rw [← List.drop_drop,List.take_append_drop]

theorem Opn.struct {P : Program} {T : TypeId} {fs : Array Field} {α : Type} {d : Kd α} {Wf : α → Prop} (h : P.underlying T = some (.struct fs)) (hsz : P.cellsOf T = d.sz) (hf : OpnF P fs.toList 0 d Wf) : Opn P T d Wf := by
 intro H enc w fuel cs x hx
 obtain⟨xs,n,_,_,hl,hlen,hg⟩:=DataW.trod_struct h hx
 have:=hf H enc w n cs (by rw [hl,hsz];omega) (fun f hm=>by
  obtain⟨i,hi,rfl⟩:=List.getElem_of_mem hm
  have h1:fs[i]? = some fs.toList[i]:=by simp at hi ⊢
  have h2:=hg i _ h1
  have hi':i < xs.length:=by rw [hlen];simpa using hi
  rw [List.getElem?_eq_getElem hi'] at h2
  exact⟨_,h2⟩)
 simpa using this

theorem Opn.iso {P : Program} {T : TypeId} {α β : Type} {d : Kd α} {Wf : α → Prop} {f : β → α} (h : Opn P T d Wf) (g : α → β) (hg : ∀ x, f (g x) = x) : Opn P T (Kd.iso d f) (fun x => Wf (f x)) := by
 intro H enc w fuel cs x hx
 obtain⟨y,hy,hw⟩:=h H enc w fuel cs x hx
 refine⟨g y,?_,by show Wf (f (g y));rw [hg];exact hw⟩
 show d.K w (f (g y)) cs
 rw [hg]
 exact hy

theorem slice_arg {P : Program} {T E : TypeId} {α : Type} {d : Kd α} {Wf : List α → Prop} (hO : Opn P T (Kd.slice E d) Wf) {H : Type} {enc : TypeId × Value → H} {W : World} {v : Value} {dd : DataW H} {p : List MemPlace}
  (hv:v.cells.toList = [v]) (h:DataW.Trod enc P W 0 (fun _=>true) true T v dd p):∃ (xs:List α) (A:Option Addr) (c:Nat),v=.slice A xs.length c∧xs.length≤c∧d.C W A xs.length xs∧Wf xs:=by
 obtain⟨fuel,hf⟩:=h
 rw [hv] at hf
 obtain⟨xs,⟨A,c,he,hl,hc⟩,hw⟩:=hO H enc W fuel _ _ hf
 exact⟨xs,A,c,by simpa using he,hl,hc,hw⟩
end Go.Proofs.YtidogkjhjmcliaaDoor.RowBase
