/-
 Plain lemmas for the pure statements: rounds (Ev), lists by their index, bounded whole numbers.
 Conditions: none beyond what each theorem names.
-/
import Derived.Test.YtidogkjhjmcliaaDoorWWords
import Derived.Test.YtidogkjhjmcliaaDoorWLast
import Derived.Test.YtidogkjhjmcliaaDoorWMore
import Derived.Test.YtidogkjhjmcliaaDoorWSized
namespace Go.Proofs.YtidogkjhjmcliaaDoor.PB
open Go.RowKit
open Go.Proofs.YtidogkjhjmcliaaDoorW.PrintWords Go.Proofs.YtidogkjhjmcliaaDoorW.PrintLast Go.Proofs.YtidogkjhjmcliaaDoorW.PrintMore
set_option linter.unusedVariables false
set_option linter.unusedSimpArgs false

theorem w64 {x : Int} (h1 : -9223372036854775808 ≤ x) (h2 : x ≤ 9223372036854775807) : wrap64 x = x := by unfold wrap64; omega
theorem w64s {n : Nat} (h2 : n < 9223372036854775807) : wrap64 ((n : Int) + 1) = ((n + 1 : Nat) : Int) := by unfold wrap64; omega
theorem ev_succ {α : Type} {g : Nat → Option α} {r : α} (h : Ev (fun k => g (k + 1)) r) : Ev g r := Ev.step (fun _ => rfl) h
theorem ev_ret {α : Type} {o : Option α} {r : α} (h : o = some r) : Ev (fun _ => o) r := ⟨0, fun _ _ => h⟩
theorem ev_bind {α β : Type} {g : Nat → Option α} {f : Nat → α → Option β} {a : α} {r : β} (h : Ev g a) (k : Ev (fun n => f n a) r) : Ev (fun n => (g n).bind (f n)) r := Ev.bind h k
theorem ev_ite {α : Type} {c : Prop} [Decidable c] {a b : Nat → Option α} {r : α} (h1 : c → Ev a r) (h2 : ¬ c → Ev b r) : Ev (fun k => if c then a k else b k) r := by
 by_cases h:c
 ·simp only [h,if_true]
  exact h1 h
 ·simp only [h,if_false]
  exact h2 h
theorem ev_ifb {α : Type} {c : Bool} {a b : Nat → Option α} {r : α} (h1 : c = true → Ev a r) (h2 : c = false → Ev b r) : Ev (fun k => if c = true then a k else b k) r := by
 cases c
 ·exact h2 rfl
 ·exact h1 rfl
theorem ev_some {α β : Type} {o : Option α} {f : Nat → α → Option β} {a : α} {r : β} (h : o = some a) (k : Ev (fun n => f n a) r) : Ev (fun n => o.bind (f n)) r := by
 subst h
 exact k
theorem ev_eq {α : Type} {g : Nat → Option α} {r r' : α} (h : Ev g r) (e : r = r') : Ev g r' := e ▸ h

def EvP {α : Type} (g : Nat → Option α) (P : α → Prop) : Prop := ∃ r, Ev g r ∧ P r
def SomeP {α : Type} (o : Option α) (P : α → Prop) : Prop := ∃ a, o = some a ∧ P a
theorem evp_of {α : Type} {g : Nat → Option α} {P : α → Prop} {r : α} (h : Ev g r) (hp : P r) : EvP g P := ⟨r, h, hp⟩
theorem evp_bind {α β : Type} {g : Nat → Option α} {f : Nat → α → Option β} {Q : α → Prop} {P : β → Prop} (h : EvP g Q) (k : ∀ a, Q a → EvP (fun n => f n a) P) : EvP (fun n => (g n).bind (f n)) P := by
 obtain⟨a,ha,hq⟩:=h
 obtain⟨r,hr,hp⟩:=k a hq
 exact⟨r,Ev.bind ha hr,hp⟩
theorem evp_ebind {α β : Type} {g : Nat → Option α} {f : Nat → α → Option β} {a : α} {P : β → Prop} (h : Ev g a) (k : EvP (fun n => f n a) P) : EvP (fun n => (g n).bind (f n)) P := by
 obtain⟨r,hr,hp⟩:=k
 exact⟨r,Ev.bind h hr,hp⟩
theorem evp_some {α β : Type} {o : Option α} {f : Nat → α → Option β} {Q : α → Prop} {P : β → Prop} (h : SomeP o Q) (k : ∀ a, Q a → EvP (fun n => f n a) P) : EvP (fun n => o.bind (f n)) P := by
 obtain⟨a,rfl,hq⟩:=h
 exact k a hq
theorem evp_now {α : Type} {a : α} {P : α → Prop} (h : P a) : EvP (fun _ => some a) P := ⟨a, ⟨0, fun _ _ => rfl⟩, h⟩
theorem evp_succ {α : Type} {g : Nat → Option α} {P : α → Prop} (h : EvP (fun k => g (k + 1)) P) : EvP g P := by
 obtain⟨r,hr,hp⟩:=h
 exact⟨r,ev_succ hr,hp⟩
theorem evp_ite {α : Type} {c : Prop} [Decidable c] {a b : Nat → Option α} {P : α → Prop} (h1 : c → EvP a P) (h2 : ¬ c → EvP b P) : EvP (fun k => if c then a k else b k) P := by
 by_cases h:c
 ·simp only [h,if_true]
  exact h1 h
 ·simp only [h,if_false]
  exact h2 h
theorem evp_pos {α : Type} {c : Prop} [Decidable c] {a b : Nat → Option α} {P : α → Prop} (h : c) (h1 : EvP a P) : EvP (fun k => if c then a k else b k) P := evp_ite (fun _ => h1) (fun hn => absurd h hn)
theorem evp_neg {α : Type} {c : Prop} [Decidable c] {a b : Nat → Option α} {P : α → Prop} (h : ¬ c) (h1 : EvP b P) : EvP (fun k => if c then a k else b k) P := evp_ite (fun hn => absurd hn h) (fun _ => h1)
theorem ev_pos {α : Type} {c : Prop} [Decidable c] {a b : Nat → Option α} {r : α} (h : c) (h1 : Ev a r) : Ev (fun k => if c then a k else b k) r := ev_ite (fun _ => h1) (fun hn => absurd h hn)
theorem ev_neg {α : Type} {c : Prop} [Decidable c] {a b : Nat → Option α} {r : α} (h : ¬ c) (h1 : Ev b r) : Ev (fun k => if c then a k else b k) r := ev_ite (fun hn => absurd hn h) (fun _ => h1)
theorem evp_true {g : Nat → Option Bool} (h : EvP g (fun r => r = true)) : Ev g true := by
 obtain⟨r,hr,rfl⟩:=h
 exact hr
theorem somep_now {α : Type} {a : α} {P : α → Prop} (h : P a) : SomeP (some a) P := ⟨a, rfl, h⟩
theorem somep_bind {α β : Type} {o : Option α} {f : α → Option β} {Q : α → Prop} {P : β → Prop} (h : SomeP o Q) (k : ∀ a, Q a → SomeP (f a) P) : SomeP (o.bind f) P := by
 obtain⟨a,rfl,hq⟩:=h
 exact k a hq
theorem somep_ite {α : Type} {c : Prop} [Decidable c] {a b : Option α} {P : α → Prop} (h1 : c → SomeP a P) (h2 : ¬ c → SomeP b P) : SomeP (if c then a else b) P := by
 by_cases h:c
 ·rw [if_pos h];exact h1 h
 ·rw [if_neg h];exact h2 h
theorem somep_pos {α : Type} {c : Prop} [Decidable c] {a b : Option α} {P : α → Prop} (h : c) (h1 : SomeP a P) : SomeP (if c then a else b) P := by rw [if_pos h]; exact h1
theorem somep_neg {α : Type} {c : Prop} [Decidable c] {a b : Option α} {P : α → Prop} (h : ¬ c) (h1 : SomeP b P) : SomeP (if c then a else b) P := by rw [if_neg h]; exact h1

theorem getD_mem {α : Type} (d : α) {xs : List α} {i : Nat} (h : i < xs.length) : xs.getD i d ∈ xs := by
 rw [List.getD_eq_getElem?_getD,List.getElem?_eq_getElem h]
 exact List.getElem_mem h
theorem drop_getD {α : Type} (d : α) (xs : List α) (i : Nat) (h : i < xs.length) : xs.drop i = xs.getD i d :: xs.drop (i + 1) := by
 rw [List.drop_eq_getElem_cons h,List.getD_eq_getElem?_getD,List.getElem?_eq_getElem h]
 rfl
theorem drop_end {α : Type} {xs : List α} {i : Nat} (h : xs.length ≤ i) : xs.drop i = [] := List.drop_of_length_le h
end Go.Proofs.YtidogkjhjmcliaaDoor.PB
namespace Go.Proofs.YtidogkjhjmcliaaDoor.PrintWords
open Go.ChangeShapes Go.WideShapes
theorem sized_ints {H : Type} {enc : TypeId × Value → H} {P : Program} {W : World} {base : Nat} {spare : Nat → Bool} {held : Bool} {t e : TypeId} {k : IntKind} {a : Option Addr} {len cap : Nat} {d : DataW H} {ps : List MemPlace} {ts : List TypeId} {ds : List (DataW H)} {j : Nat}
  (hsz:(DataW.weightsEach P ts ds).all (· ≤ reachBytes)=true) (ht:ts[j]? = some t) (hd:ds[j]? = some d) (hu:P.underlying t=some (.slice e)) (he:P.underlying e=some (.int k)) (hc:P.cellsOf e=1) {B:Nat} (hB:P.bytesOf e=B)
  (h:DataW.Trod enc P W base spare held t (.slice a len cap) d ps):len*B≤140737488351232:=
 Go.Proofs.YtidogkjhjmcliaaDoorW.PrintWords.sized_ints hsz ht hd hu he hc hB h
end Go.Proofs.YtidogkjhjmcliaaDoor.PrintWords
