/-
 The title's plain words: a text cut at its first separator, its paragraphs, numbers in digits, times, one title read, all titles read and shown; each over lists of bytes.
 Conditions: none beyond what each theorem names.
-/
import Derived.Lib.IndexMore
import Derived.Lib.ItoaNum
import Derived.Lib.Repeat
import Derived.Lib.Strings
namespace Go.Proofs.YtidogkjhjmcliaaDoor.TM
open Go.Lib
set_option linter.unusedVariables false
set_option linter.unusedSimpArgs false

/-! #### a text cut at a separator -/
def cutG (sep : List UInt8) : List UInt8 → Option (List UInt8 × List UInt8)
 | [] => if sep.isPrefixOf [] then some ([], []) else none
 | b :: l => if sep.isPrefixOf (b :: l) then some ([], (b :: l).drop sep.length) else (cutG sep l).map fun x => (b :: x.1, x.2)
theorem prefix_split {p l : List UInt8} (h : p.isPrefixOf l = true) : l = p ++ l.drop p.length := by
 obtain⟨t,rfl⟩:=List.isPrefixOf_iff_prefix.1 h
 simp
theorem cutG_split {sep : List UInt8} : ∀ {s a b : List UInt8}, cutG sep s = some (a, b) → s = a ++ sep ++ b
 | [], a, b, h => by
  unfold cutG at h
  split at h
  ·rename_i hp
   simp only [Option.some.injEq,Prod.mk.injEq] at h
   obtain⟨rfl,rfl⟩:=h
   have:sep = []:=by simpa using hp
   simp [this]
  ·cases h
 | x :: l, a, b, h => by
  unfold cutG at h
  split at h
  ·rename_i hp
   simp only [Option.some.injEq,Prod.mk.injEq] at h
   obtain⟨rfl,rfl⟩:=h
   simpa using prefix_split hp
  ·cases hc:cutG sep l with
   | none => rw [hc] at h; cases h
   | some y =>
    rw [hc] at h
    obtain⟨a',b'⟩:=y
    simp only [Option.map_some,Option.some.injEq,Prod.mk.injEq] at h
    obtain⟨rfl,rfl⟩:=h
    have:=cutG_split hc
    rw [this]
    simp
theorem index_cutG {sep : List UInt8} (hs : sep ≠ []) : ∀ s : List UInt8, index s sep = match cutG sep s with | some x => (x.1.length : Int) | none => -1
 | [] => by
  cases sep with
  | nil => exact absurd rfl hs
  | cons c t => rfl
 | b :: l => by
  have ih:=index_cutG hs l
  unfold index cutG
  by_cases hp:sep.isPrefixOf (b :: l)=true
  ·simp [hp]
  ·simp only [hp,if_false,Bool.false_eq_true]
   rw [ih]
   cases cutG sep l with
   | none => rfl
   | some x =>
    have h1:((x.1.length:Int) == -1)=false:=by rw [beq_eq_false_iff_ne];omega
    simp [h1]
theorem contains_cutG {sep : List UInt8} (hs : sep ≠ []) (s : List UInt8) : contains s sep = (cutG sep s).isSome := by
 unfold contains
 rw [index_cutG hs]
 cases cutG sep s with
 | none => rfl
 | some x => simp
theorem cut_cutG {sep : List UInt8} (hs : sep ≠ []) (s : List UInt8) : cut s sep = match cutG sep s with | some x => (x.1, x.2, true) | none => (s, [], false) := by
 unfold cut
 rw [index_cutG hs]
 cases h:cutG sep s with
 | none => simp
 | some x =>
  have e:=cutG_split (a:=x.1) (b:=x.2) h
  have h1:(0:Int)≤(x.1.length:Int):=by omega
  simp only [h1,if_true,Int.toNat_natCast]
  refine Prod.ext ?_ (Prod.ext ?_ rfl)
  ·simp only;rw [e];simp
  ·simp only;rw [e];simp [← List.drop_drop]

theorem line_nil : cutG [10] [] = none := rfl
theorem line_ten (l : List UInt8) : cutG [10] (10 :: l) = some ([], l) := by simp [cutG]
theorem line_cons {x : UInt8} (h : x ≠ 10) (l : List UInt8) : cutG [10] (x :: l) = (cutG [10] l).map fun y => (x :: y.1, y.2) := by
 have : ¬ (10=x):=fun e=>h e.symm
 simp [cutG,this]
theorem line_none : ∀ {l : List UInt8}, cutG [10] l = none → 10 ∉ l
 | [], _ => by simp
 | x :: l, h => by
  by_cases hx:x=10
  ·subst hx;rw [line_ten] at h;cases h
  ·rw [line_cons hx] at h
   have h2:cutG [10] l=none:=by cases hc:cutG [10] l with
    | none => rfl
    | some y => rw [hc] at h; cases h
   have:=line_none h2
   simp only [List.mem_cons,not_or]
   exact⟨fun e=>hx e.symm,this⟩
theorem line_of : ∀ {a : List UInt8} (b : List UInt8), 10 ∉ a → cutG [10] (a ++ 10 :: b) = some (a, b)
 | [], b, _ => line_ten b
 | x :: a, b, h => by
  simp only [List.mem_cons,not_or] at h
  rw [List.cons_append,line_cons (fun e=>h.1 e.symm),line_of b h.2]
  rfl
theorem line_some : ∀ {l a b : List UInt8}, cutG [10] l = some (a, b) → l = a ++ 10 :: b ∧ 10 ∉ a
 | [], a, b, h => by cases h
 | x :: l, a, b, h => by
  by_cases hx:x=10
  ·subst hx
   rw [line_ten] at h
   simp only [Option.some.injEq,Prod.mk.injEq] at h
   obtain⟨rfl,rfl⟩:=h
   exact⟨rfl,by simp⟩
  ·rw [line_cons hx] at h
   cases hc:cutG [10] l with
   | none => rw [hc] at h; cases h
   | some y =>
    obtain⟨a',b'⟩:=y
    rw [hc] at h
    simp only [Option.map_some,Option.some.injEq,Prod.mk.injEq] at h
    obtain⟨rfl,rfl⟩:=h
    obtain⟨rfl,hn⟩:=line_some hc
    refine⟨rfl,?_⟩
    simp only [List.mem_cons,not_or]
    exact⟨fun e=>hx e.symm,hn⟩

/-! #### the first empty line -/
theorem two_cons {x : UInt8} (h : x ≠ 10) (l : List UInt8) : cutG [10, 10] (x :: l) = (cutG [10, 10] l).map fun y => (x :: y.1, y.2) := by
 have : ¬ (10=x):=fun e=>h e.symm
 simp [cutG,this]
theorem two_ten (l : List UInt8) : cutG [10, 10] (10 :: 10 :: l) = some ([], l) := by simp [cutG]
theorem two_one {l : List UInt8} (h : l.head? ≠ some 10) : cutG [10, 10] (10 :: l) = (cutG [10, 10] l).map fun y => (10 :: y.1, y.2) := by
 cases l with
 | nil => rfl
 | cons y l =>
  have : ¬ (10=y):=fun e=>h (by rw [← e];rfl)
  rw [cutG]
  simp [this]
theorem two_none : ∀ {l : List UInt8}, 10 ∉ l → cutG [10, 10] l = none
 | [], _ => rfl
 | x :: l, h => by
  simp only [List.mem_cons,not_or] at h
  rw [two_cons (fun e=>h.1 e.symm),two_none h.2]
  rfl
theorem two_line_ten : ∀ {a : List UInt8} (b : List UInt8), 10 ∉ a → cutG [10, 10] (a ++ 10 :: 10 :: b) = some (a, b)
 | [], b, _ => two_ten b
 | x :: a, b, h => by
  simp only [List.mem_cons,not_or] at h
  rw [List.cons_append,two_cons (fun e=>h.1 e.symm),two_line_ten b h.2]
  rfl
theorem two_line : ∀ {a : List UInt8} {b : List UInt8}, 10 ∉ a → b.head? ≠ some 10 → cutG [10, 10] (a ++ 10 :: b) = (cutG [10, 10] b).map fun y => (a ++ 10 :: y.1, y.2)
 | [], b, _, hb => two_one hb
 | x :: a, b, h, hb => by
  simp only [List.mem_cons,not_or] at h
  rw [List.cons_append,two_cons (fun e=>h.1 e.symm),two_line h.2 hb]
  cases cutG [10,10] b <;> rfl
def para : Nat → List UInt8 → Option (List UInt8 × List UInt8)
 | 0, _ => none
 | f + 1, r => match cutG [10] r with
  | none => none
  | some (a, b) => if a = [] then some ([], b) else (para f b).map fun t => (a ++ 10 :: t.1, t.2)
theorem para_ten (f : Nat) (l : List UInt8) : para (f + 1) (10 :: l) = some ([], l) := by
 rw [para,line_ten]
 rfl
theorem para_two : ∀ (f : Nat) (r : List UInt8), r.length < f → r.head? ≠ some 10 → para f r = (cutG [10, 10] r).map fun t => (t.1 ++ [10], t.2)
 | 0, r, h, _ => by omega
 | f + 1, r, h, hr => by
  unfold para
  cases hl:cutG [10] r with
  | none => rw [two_none (line_none hl)]; rfl
  | some y =>
   obtain⟨a,b⟩:=y
   obtain⟨rfl,hn⟩:=line_some hl
   have ha:a ≠ []:=by
    rintro rfl
    exact hr rfl
   simp only [ha,if_false]
   have hlen:b.length < f:=by simp at h;omega
   by_cases hb:b.head? = some 10
   ·cases b with
    | nil => cases hb
    | cons z b =>
     obtain rfl:z=10:=by simpa using hb
     obtain⟨g,rfl⟩:∃ g,f=g+1:=⟨f - 1,by simp at hlen;omega⟩
     rw [para_ten,two_line_ten b hn]
     rfl
   ·rw [para_two f b hlen hb,two_line hn hb]
    cases cutG [10,10] b with
    | none => rfl
    | some t => simp
theorem two_text : ∀ {t : List UInt8} (b : List UInt8), t ≠ [] → cutG [10, 10] t = none → t.getLast? ≠ some 10 → cutG [10, 10] (t ++ 10 :: 10 :: b) = some (t, b)
 | [], _, h, _, _ => absurd rfl h
 | [x], b, _, _, hl => by
  have hx:x≠10:=fun e=>hl (by rw [e];rfl)
  rw [List.singleton_append,two_cons hx,two_ten]
  rfl
 | x :: y :: t, b, _, hc, hl => by
  have hl2:(y :: t).getLast? ≠ some 10:=by simpa [List.getLast?_cons_cons] using hl
  by_cases hx:x=10
  ·subst hx
   have hy:(y :: t).head? ≠ some 10:=fun e=>by
    obtain rfl:y=10:=by simpa using e
    rw [two_ten] at hc
    cases hc
   rw [two_one hy] at hc
   have hc2:cutG [10,10] (y :: t)=none:=by cases h:cutG [10,10] (y :: t) with
    | none => rfl
    | some z => rw [h] at hc; cases hc
   have:=two_text b (by simp) hc2 hl2
   rw [List.cons_append,two_one (by simpa using hy),this]
   rfl
  ·rw [two_cons hx] at hc
   have hc2:cutG [10,10] (y :: t)=none:=by cases h:cutG [10,10] (y :: t) with
    | none => rfl
    | some z => rw [h] at hc; cases hc
   have:=two_text b (by simp) hc2 hl2
   rw [List.cons_append,two_cons hx,this]
   rfl

/-! #### texts -/
def good (c : UInt8) : Bool := c == 10 || (!(decide (c < 32)) && c != 127)
def okText (t : List UInt8) : Bool := decide (1 ≤ t.length) && decide (t.length ≤ 200) && (t.head? != some 10) && (t.getLast? != some 10) && (cutG [10, 10] t).isNone && t.all good
def scan : UInt8 → List UInt8 → Bool
 | _, [] => true
 | p, c :: l => if c = 10 ∧ p = 10 then false else if good c then scan c l else false
theorem scan_eq : ∀ (p : UInt8) (l : List UInt8), scan p l = ((p != 10 || l.head? != some 10) && (cutG [10, 10] l).isNone && l.all good)
 | p, [] => by simp [scan, cutG]
 | p, c :: l => by
  have ih:=scan_eq c l
  unfold scan
  by_cases hc:c=10
  ·subst hc
   have hg:good 10=true:=by decide
   by_cases hp:p=10
   ·subst hp;simp
   ·simp only [hp,and_false,if_false,hg,if_true,ih]
    have h1:(p != 10)=true:=by simpa using hp
    by_cases hh:l.head? = some 10
    ·cases l with
     | nil => cases hh
     | cons z l =>
      obtain rfl:z=10:=by simpa using hh
      rw [two_ten]
      simp
    ·have hb:(l.head? != some 10)=true:=by simpa using hh
     rw [two_one hh]
     simp [h1,hg,hb,Option.isNone_map]
  ·have hn : ¬ (c=10∧p=10):=fun e=>hc e.1
   rw [if_neg hn,two_cons hc]
   cases hg:good c
   ·simp [hg]
   ·have hb1:(c != 10)=true:=by simpa using hc
    have hb2:(some c != some 10)=true:=by simpa using hc
    rw [if_pos rfl,ih]
    simp [hg,hb1,hb2,Option.isNone_map]

/-! #### numbers -/
theorem decDigits_mem : ∀ (u : Nat) (c : UInt8), c ∈ decDigits u → 48 ≤ c.toNat ∧ c.toNat ≤ 57 := by
 intro u
 induction u using Nat.strongRecOn with
 | _ u ih =>
  intro c hc
  rw [decDigits] at hc
  have key:∀ x:Nat,x < 10→(UInt8.ofNat (48+x)).toNat=48+x:=fun x hx=>by
   rw [UInt8.toNat_ofNat']
   omega
  split at hc
  ·rename_i h
   simp only [List.mem_singleton] at hc
   subst hc
   rw [key u h]
   omega
  ·rename_i h
   simp only [List.mem_append,List.mem_singleton] at hc
   rcases hc with hc|hc
   ·exact ih (u / 10) (by omega) c hc
   ·subst hc
    rw [key (u % 10) (by omega)]
    omega
def pad (w u : Nat) : List UInt8 := List.replicate (w - (decDigits u).length) 48 ++ decDigits u
theorem pad_mem {w u : Nat} {c : UInt8} (h : c ∈ pad w u) : 48 ≤ c.toNat ∧ c.toNat ≤ 57 := by
 unfold pad at h
 simp only [List.mem_append,List.mem_replicate] at h
 rcases h with ⟨_,rfl⟩|h
 ·decide
 ·exact decDigits_mem u c h
theorem pad_length (w u : Nat) : w ≤ (pad w u).length ∧ (decDigits u).length ≤ (pad w u).length := by
 unfold pad
 simp
 omega
theorem pad_length_eq (w u : Nat) : (pad w u).length = max w (decDigits u).length := by
 unfold pad
 simp
 omega
theorem digits_small {u k : Nat} (hk : 1 ≤ k) (h : u < 10 ^ k) : (decDigits u).length ≤ k := by
 rw [decDigits_length]
 rcases Nat.lt_or_ge k (nDigits u) with h1|h1
 ·exfalso
  have h2:1≤nDigits u:=nDigits_pos u
  by_cases h3:u < 10
  ·rw [nDigits_small h3] at h1
   omega
  ·have key:∀ n v:Nat,v < 10 ^ n→10≤v→nDigits v≤n:=by
    intro n
    induction n with
    | zero => intro v hv h10; simp at hv; omega
    | succ n ih =>
     intro v hv h10
     rw [nDigits_big (by omega)]
     rw [Nat.pow_succ] at hv
     by_cases h4:v / 10 < 10
     ·rw [nDigits_small h4]
      rcases Nat.eq_zero_or_pos n with e|e
      ·subst e;simp at hv;omega
      ·omega
     ·have:=ih (v / 10) (by omega) (by omega)
      omega
   have:=key k u h (by omega)
   omega
 ·exact h1
theorem digits_big {u k : Nat} (h : (decDigits u).length ≤ k) : u < 10 ^ k := by
 rw [decDigits_length] at h
 exact Nat.lt_of_lt_of_le (lt_pow_nDigits u) (Nat.pow_le_pow_right (by decide) h)
theorem pad_two : ∀ u : Nat, u < 100 → pad 2 u = [UInt8.ofNat (48 + u / 10), UInt8.ofNat (48 + u % 10)] := by
 intro u h
 unfold pad
 by_cases h1:u < 10
 ·rw [decDigits_one h1]
  have:u / 10=0:=by omega
  have h2:u % 10=u:=by omega
  rw [this,h2]
  rfl
 ·rw [decDigits_two h1 h]
  rfl
theorem decDigits_three {i : Nat} (h1 : ¬ i < 100) (h2 : i < 1000) : decDigits i = [UInt8.ofNat (48 + i / 100), UInt8.ofNat (48 + i / 10 % 10), UInt8.ofNat (48 + i % 10)] := by
 rw [decDigits,dif_neg (by omega),decDigits_two (by omega) (by omega)]
 have:i / 10 / 10=i / 100:=by omega
 rw [this]
 rfl
theorem pad_three : ∀ u : Nat, u < 1000 → pad 3 u = [UInt8.ofNat (48 + u / 100), UInt8.ofNat (48 + u / 10 % 10), UInt8.ofNat (48 + u % 10)] := by
 intro u h
 unfold pad
 by_cases h1:u < 10
 ·rw [decDigits_one h1]
  have e1:u / 100=0:=by omega
  have e2:u / 10 % 10=0:=by omega
  have e3:u % 10=u:=by omega
  rw [e1,e2,e3]
  rfl
 ·by_cases h2:u < 100
  ·rw [decDigits_two h1 h2]
   have e1:u / 100=0:=by omega
   have e2:u / 10 % 10=u / 10:=by omega
   rw [e1,e2]
   rfl
  ·rw [decDigits_three h2 h]
   rfl

/-! #### times -/
def timeL (m : Nat) : List UInt8 := pad 2 (m / 3600000) ++ (58 :: (pad 2 (m / 60000 % 60) ++ (58 :: (pad 2 (m / 1000 % 60) ++ (44 :: pad 3 (m % 1000))))))
theorem timeL_length (m : Nat) : (timeL m).length = (pad 2 (m / 3600000)).length + 10 := by
 unfold timeL
 rw [pad_two (m / 60000 % 60) (by omega),pad_two (m / 1000 % 60) (by omega),pad_three (m % 1000) (by omega)]
 simp
theorem timeL_bound {m : Nat} (h : (timeL m).length = 12) : m ≤ 359999999 := by
 rw [timeL_length] at h
 have h1:=(pad_length 2 (m / 3600000)).2
 have h2:=digits_big (u:=m / 3600000) (k:=2) (by omega)
 omega
theorem timeL_mem {m : Nat} {c : UInt8} (h : c ∈ timeL m) : c ≠ 10 ∧ c ≠ 32 := by
 have key:∀ x:UInt8,48≤x.toNat∧x.toNat≤57→x≠10∧x≠32:=fun x hx=>⟨fun e=>by subst e;revert hx;decide,fun e=>by subst e;revert hx;decide⟩
 unfold timeL at h
 simp only [List.mem_append,List.mem_cons] at h
 rcases h with h|rfl|h|rfl|h|rfl|h
 ·exact key c (pad_mem h)
 ·decide
 ·exact key c (pad_mem h)
 ·decide
 ·exact key c (pad_mem h)
 ·decide
 ·exact key c (pad_mem h)
def dig (b : UInt8) : Bool := decide (48 ≤ b.toNat) && decide (b.toNat ≤ 57)
def val9 (a b d e g h j k l : Nat) : Nat := (((a - 48) * 10 + (b - 48)) * 60 + ((d - 48) * 10 + (e - 48))) * 60 * 1000 + ((g - 48) * 10 + (h - 48)) * 1000 + (((j - 48) * 10 + (k - 48)) * 10 + (l - 48))
def readL : List UInt8 → Int × Bool
 | [a, b, c, d, e, f, g, h, i, j, k, l] => if dig a && dig b && dig d && dig e && dig g && dig h && dig j && dig k && dig l then
   ((val9 a.toNat b.toNat d.toNat e.toNat g.toNat h.toNat j.toNat k.toNat l.toNat : Nat), decide (timeL (val9 a.toNat b.toNat d.toNat e.toNat g.toNat h.toNat j.toNat k.toNat l.toNat) = [a, b, c, d, e, f, g, h, i, j, k, l])) else (0, false)
 | _ => (0, false)
theorem readL_twelve (a b c d e f g h i j k l : UInt8) : readL [a, b, c, d, e, f, g, h, i, j, k, l] = if dig a && dig b && dig d && dig e && dig g && dig h && dig j && dig k && dig l then
   (((val9 a.toNat b.toNat d.toNat e.toNat g.toNat h.toNat j.toNat k.toNat l.toNat:Nat):Int),decide (timeL (val9 a.toNat b.toNat d.toNat e.toNat g.toNat h.toNat j.toNat k.toNat l.toNat) = [a,b,c,d,e,f,g,h,i,j,k,l])) else (0,false):=rfl
theorem readL_ok {s : List UInt8} {x : Int} (h : readL s = (x, true)) : ∃ m : Nat, x = m ∧ timeL m = s ∧ s.length = 12 ∧ m ≤ 359999999 := by
 unfold readL at h
 split at h
 ·split at h
  ·simp only [Prod.mk.injEq,decide_eq_true_eq] at h
   obtain⟨rfl,h2⟩:=h
   exact⟨_,rfl,h2,rfl,timeL_bound (by rw [h2];rfl)⟩
  ·simp at h
 ·simp at h
theorem readL_snd {s : List UInt8} (h : (readL s).2 = true) : ∃ m : Nat, (readL s).1 = m ∧ timeL m = s ∧ s.length = 12 ∧ m ≤ 359999999 := readL_ok (x := (readL s).1) (by rw [← h])
theorem digit_toNat {x : Nat} (h : x < 10) : (UInt8.ofNat (48 + x)).toNat = 48 + x := by
 rw [UInt8.toNat_ofNat']
 omega
theorem dig_ofNat {x : Nat} (h : x < 10) : dig (UInt8.ofNat (48 + x)) = true := by
 unfold dig
 rw [digit_toNat h]
 simp
 omega
theorem readL_timeL {m : Nat} (h : m ≤ 359999999) : readL (timeL m) = ((m : Int), true) := by
 have e:timeL m = [UInt8.ofNat (48+m / 3600000 / 10),UInt8.ofNat (48+m / 3600000 % 10),58,UInt8.ofNat (48+m / 60000 % 60 / 10),UInt8.ofNat (48+m / 60000 % 60 % 10),58,UInt8.ofNat (48+m / 1000 % 60 / 10),UInt8.ofNat (48+m / 1000 % 60 % 10),44,UInt8.ofNat (48+m % 1000 / 100),UInt8.ofNat (48+m % 1000 / 10 % 10),UInt8.ofNat (48+m % 1000 % 10)]:=by
  unfold timeL
  rw [pad_two (m / 3600000) (by omega),pad_two (m / 60000 % 60) (by omega),pad_two (m / 1000 % 60) (by omega),pad_three (m % 1000) (by omega)]
  rfl
 have hv:val9 (48+m / 3600000 / 10) (48+m / 3600000 % 10) (48+m / 60000 % 60 / 10) (48+m / 60000 % 60 % 10) (48+m / 1000 % 60 / 10) (48+m / 1000 % 60 % 10) (48+m % 1000 / 100) (48+m % 1000 / 10 % 10) (48+m % 1000 % 10)=m:=by
  unfold val9
  omega
 conv=>lhs;rw [e]
 rw [readL_twelve]
 rw [digit_toNat (x:=m / 3600000 / 10) (by omega),digit_toNat (x:=m / 3600000 % 10) (by omega),digit_toNat (x:=m / 60000 % 60 / 10) (by omega),digit_toNat (x:=m / 60000 % 60 % 10) (by omega),digit_toNat (x:=m / 1000 % 60 / 10) (by omega),digit_toNat (x:=m / 1000 % 60 % 10) (by omega),digit_toNat (x:=m % 1000 / 100) (by omega),digit_toNat (x:=m % 1000 / 10 % 10) (by omega),digit_toNat (x:=m % 1000 % 10) (by omega),hv]
 rw [dig_ofNat (x:=m / 3600000 / 10) (by omega),dig_ofNat (x:=m / 3600000 % 10) (by omega),dig_ofNat (x:=m / 60000 % 60 / 10) (by omega),dig_ofNat (x:=m / 60000 % 60 % 10) (by omega),dig_ofNat (x:=m / 1000 % 60 / 10) (by omega),dig_ofNat (x:=m / 1000 % 60 % 10) (by omega),dig_ofNat (x:=m % 1000 / 100) (by omega),dig_ofNat (x:=m % 1000 / 10 % 10) (by omega),dig_ofNat (x:=m % 1000 % 10) (by omega)]
 simp only [Bool.and_self,if_true,← e,decide_true]

/-! #### the line of times -/
def arrowL : List UInt8 := [32, 45, 45, 62, 32]
def times (s : List UInt8) : Option (Int × Int) := if s.length = 29 ∧ (s.drop 12).take 5 = arrowL ∧ (readL (s.take 12)).2 = true ∧ (readL (s.drop 17)).2 = true then some ((readL (s.take 12)).1, (readL (s.drop 17)).1) else none
theorem times_some {s : List UInt8} {x y : Int} (h : times s = some (x, y)) : ∃ m n : Nat, x = m ∧ y = n ∧ m ≤ 359999999 ∧ n ≤ 359999999 ∧ s = timeL m ++ arrowL ++ timeL n := by
 unfold times at h
 split at h
 ·rename_i hc
  obtain⟨h1,h2,h3,h4⟩:=hc
  obtain⟨m,e1,e2,_,e3⟩:=readL_snd h3
  obtain⟨n,f1,f2,_,f3⟩:=readL_snd h4
  simp only [Option.some.injEq,Prod.mk.injEq] at h
  refine⟨m,n,h.1.symm.trans e1,h.2.symm.trans f1,e3,f3,?_⟩
  rw [e2,f2,← h2]
  have h5:s.drop 17=(s.drop 12).drop 5:=by rw [List.drop_drop]
  rw [h5,List.append_assoc,List.take_append_drop,List.take_append_drop]
 ·cases h
theorem arrow_first : ∀ {a : List UInt8} (b : List UInt8), 32 ∉ a → cutG arrowL (a ++ arrowL ++ b) = some (a, b)
 | [], b, _ => by simp [cutG, arrowL]
 | x :: a, b, h => by
  simp only [List.mem_cons,not_or] at h
  have h1:arrowL.isPrefixOf (x :: (a ++ arrowL ++ b))=false:=by
   unfold arrowL
   have:(32 == x)=false:=by simpa using h.1
   simp [List.isPrefixOf,this]
  rw [List.cons_append,List.cons_append,cutG,if_neg (by rw [h1];simp),arrow_first b h.2]
  rfl
theorem times_of {m n : Nat} (hm : m ≤ 359999999) (hn : n ≤ 359999999) : times (timeL m ++ arrowL ++ timeL n) = some ((m : Int), (n : Int)) := by
 have e1:(timeL m).length=12:=by
  rw [timeL_length,pad_two _ (by omega)];rfl
 have e2:(timeL n).length=12:=by
  rw [timeL_length,pad_two _ (by omega)];rfl
 have h1:(timeL m ++ arrowL ++ timeL n).take 12=timeL m:=by
  rw [List.append_assoc,List.take_append_of_le_length (by omega),List.take_of_length_le (by omega)]
 have h2:((timeL m ++ arrowL ++ timeL n).drop 12).take 5=arrowL:=by
  rw [List.append_assoc,List.drop_append_of_le_length (by omega),List.drop_of_length_le (by omega),List.nil_append,List.take_append_of_le_length (by decide)]
  rfl
 have h3:(timeL m ++ arrowL ++ timeL n).drop 17=timeL n:=by
  have:(timeL m ++ arrowL).length=17:=by rw [List.length_append,e1];rfl
  rw [List.drop_append_of_le_length (by omega),List.drop_of_length_le (by omega),List.nil_append]
 unfold times
 rw [h1,h2,h3,readL_timeL hm,readL_timeL hn,if_pos ⟨by simp [e1,e2,arrowL],rfl,rfl,rfl⟩]
theorem times_cut (s : List UInt8) : times s = match cutG arrowL s with
  | some x => if (readL x.1).2 = true ∧ (readL x.2).2 = true then some ((readL x.1).1, (readL x.2).1) else none
  | none => none := by
 cases h:times s with
 | some v =>
  obtain⟨x,y⟩:=v
  obtain⟨m,n,rfl,rfl,hm,hn,rfl⟩:=times_some h
  rw [arrow_first (timeL n) (fun hc=>(timeL_mem hc).2 rfl)]
  simp only
  rw [readL_timeL hm,readL_timeL hn]
  simp
 | none =>
  cases hc:cutG arrowL s with
  | none => rfl
  | some x =>
   obtain⟨a,b⟩:=x
   simp only
   by_cases hr:(readL a).2=true∧(readL b).2=true
   ·exfalso
    obtain⟨m,e1,e2,_,hm⟩:=readL_snd hr.1
    obtain⟨n,f1,f2,_,hn⟩:=readL_snd hr.2
    have hs:=cutG_split hc
    subst e2 f2 hs
    rw [times_of hm hn] at h
    cases h
   ·rw [if_neg hr]

/-! #### one title -/
abbrev T3 := Int × Int × List UInt8
def orderBad (prev : Option Int) (x : Int) : Bool := match prev with | none => false | some p => decide (x < p)
def bodyV (n : Nat) (x y : Int) (body : List UInt8) : Int ⊕ (T3 × List UInt8) :=
 if body.head? = some 10 then .inl 5 else match cutG [10, 10] body with
  | none => .inl 5
  | some z => if okText z.1 = true then (if n = 200 then .inl 6 else .inr ((x, y, z.1), z.2)) else .inl 5
def stepV (n : Nat) (prev : Option Int) (r : List UInt8) : Int ⊕ (T3 × List UInt8) :=
 match cutG [10] r with
 | none => .inl 2
 | some (first, r1) => if first = decDigits (n + 1) then
   match cutG [10] r1 with
   | none => .inl 3
   | some (second, body) => match times second with
    | none => .inl 3
    | some (x, y) => if x ≥ y ∨ orderBad prev x = true then .inl 4 else bodyV n x y body
  else .inl 2
def titleOk (prev : Option Int) (t : T3) : Bool := decide (0 ≤ t.1) && decide (t.1 < t.2.1) && decide (t.2.1 ≤ 359999999) && okText t.2.2 && !(orderBad prev t.1)
def block (n : Nat) (t : T3) : List UInt8 := decDigits (n + 1) ++ 10 :: (timeL t.1.toNat ++ arrowL ++ timeL t.2.1.toNat ++ 10 :: (t.2.2 ++ [10, 10]))
theorem step_some {n : Nat} {prev : Option Int} {r : List UInt8} {t : T3} {rest : List UInt8} (h : stepV n prev r = .inr (t, rest)) :
  r=block n t ++ rest∧titleOk prev t=true∧n≠200:=by
 unfold stepV at h
 split at h
 ·cases h
 ·rename_i first r1 h1
  split at h
  ·rename_i hf
   split at h
   ·cases h
   ·rename_i second body h2
    split at h
    ·cases h
    ·rename_i x y h3
     split at h
     ·cases h
     ·rename_i ho
      unfold bodyV at h
      split at h
      ·cases h
      ·split at h
       ·cases h
       ·rename_i z' h5
        obtain⟨t',rest'⟩:=z'
        split at h
        ·rename_i hok
         split at h
         ·cases h
         ·rename_i hn
          simp only [Sum.inr.injEq,Prod.mk.injEq] at h
          obtain⟨rfl,rfl⟩:=h
          obtain⟨rfl,_⟩:=line_some h1
          obtain⟨rfl,_⟩:=line_some h2
          obtain⟨m,k,rfl,rfl,hm,hk,rfl⟩:=times_some h3
          have h6:=cutG_split h5
          subst h6 hf
          refine⟨?_,?_,hn⟩
          ·simp [block]
          ·simp only [not_or] at ho
           unfold titleOk
           simp only [Bool.and_eq_true,decide_eq_true_eq,Bool.not_eq_true']
           refine⟨⟨⟨⟨by omega,by omega⟩,by omega⟩,hok⟩,by simpa using ho.2⟩
        ·cases h
  ·cases h
theorem okText_parts {t : List UInt8} (h : okText t = true) : 1 ≤ t.length ∧ t.length ≤ 200 ∧ t.head? ≠ some 10 ∧ t.getLast? ≠ some 10 ∧ cutG [10, 10] t = none ∧ t.all good = true := by
 unfold okText at h
 simp only [Bool.and_eq_true,decide_eq_true_eq,bne_iff_ne,ne_eq,Option.isNone_iff_eq_none] at h
 exact⟨h.1.1.1.1.1,h.1.1.1.1.2,h.1.1.1.2,h.1.1.2,h.1.2,h.2⟩
theorem step_block {n : Nat} {prev : Option Int} {t : T3} (rest : List UInt8) (h : titleOk prev t = true) (hn : n ≠ 200) : stepV n prev (block n t ++ rest) = .inr (t, rest) := by
 obtain⟨x,y,s⟩:=t
 unfold titleOk at h
 simp only [Bool.and_eq_true,decide_eq_true_eq,Bool.not_eq_true'] at h
 obtain⟨⟨⟨⟨h1,h2⟩,h3⟩,h4⟩,h5⟩:=h
 obtain⟨m,rfl⟩:=Int.eq_ofNat_of_zero_le h1
 obtain⟨k,rfl⟩:=Int.eq_ofNat_of_zero_le (show 0≤y by omega)
 obtain⟨t1,t2,t3,t4,t5,t6⟩:=okText_parts h4
 have e:block n ((m:Int),(k:Int),s) ++ rest=decDigits (n+1) ++ 10 :: ((timeL m ++ arrowL ++ timeL k) ++ 10 :: (s ++ 10 :: 10 :: rest)):=by simp [block]
 have hd:10 ∉ decDigits (n+1):=fun hc=>by have:=decDigits_mem _ _ hc;revert this;decide
 have ht:10 ∉ timeL m ++ arrowL ++ timeL k:=fun hc=>by
  simp only [List.mem_append] at hc
  rcases hc with (hc|hc)|hc
  ·exact(timeL_mem hc).1 rfl
  ·revert hc;decide
  ·exact(timeL_mem hc).1 rfl
 have hh:(s ++ 10 :: 10 :: rest).head? ≠ some 10:=by
  cases s with
  | nil => simp at t1
  | cons z s => simpa using t3
 have ho : ¬ ((m:Int) ≥ (k:Int)∨orderBad prev (m:Int)=true):=by
  rintro(hc|hc)
  ·exact absurd (show(m:Int) < (k:Int) from h2) (by omega)
  ·rw [show orderBad prev (m:Int)=false from h5] at hc;cases hc
 have htx:=two_text rest (by intro e;subst e;simp at t1) t5 t4
 have htm:=times_of (m:=m) (n:=k) (by have:(m:Int) < (k:Int):=h2;have:(k:Int)≤359999999:=h3;omega) (by have:(k:Int)≤359999999:=h3;omega)
 unfold stepV bodyV
 simp only [e,line_of _ hd,if_true,line_of _ ht,htm,ho,hh,if_false,htx,h4,hn]

/-! #### all titles -/
def lastTo (out : List T3) : Option Int := out.getLast?.map fun t => t.2.1
def readV : Nat → List T3 → List UInt8 → List T3 × Int × Int
 | 0, out, _ => (out, 0, 0)
 | f + 1, out, r => if r = [] then (out, 0, 0) else match stepV out.length (lastTo out) r with
  | .inl c => ([], c, (out.length : Int))
  | .inr (t, rest) => readV f (out ++ [t]) rest
theorem readV_nil (f : Nat) (out : List T3) : readV (f + 1) out [] = (out, 0, 0) := rfl
theorem readV_inl {f : Nat} {out : List T3} {r : List UInt8} {c : Int} (h : r ≠ []) (hs : stepV out.length (lastTo out) r = .inl c) : readV (f + 1) out r = ([], c, (out.length : Int)) := by
 unfold readV
 rw [if_neg h,hs]
theorem readV_inr {f : Nat} {out : List T3} {r rest : List UInt8} {t : T3} (h : r ≠ []) (hs : stepV out.length (lastTo out) r = .inr (t, rest)) : readV (f + 1) out r = readV f (out ++ [t]) rest := by
 conv=>lhs;unfold readV
 rw [if_neg h,hs]
theorem step_code {n : Nat} {prev : Option Int} {r : List UInt8} {c : Int} (hs : stepV n prev r = .inl c) : c ≠ 0 := by
 rintro rfl
 unfold stepV bodyV at hs
 repeat' split at hs
 all_goals first|(cases hs;done)|simp at hs
def okFrom : Option Int → List T3 → Bool
 | _, [] => true
 | p, t :: l => titleOk p t && okFrom (some t.2.1) l
def okList (l : List T3) : Bool := decide (l.length ≤ 200) && okFrom none l
def showFrom : Nat → List T3 → List UInt8
 | _, [] => []
 | n, t :: l => block n t ++ showFrom (n + 1) l
def showV (l : List T3) : List UInt8 := if okList l then showFrom 0 l else []
theorem block_pos (n : Nat) (t : T3) : block n t ≠ [] := by
 unfold block
 simp
theorem lastTo_snoc (out : List T3) (t : T3) : lastTo (out ++ [t]) = some t.2.1 := by simp [lastTo]
theorem readV_show : ∀ (l : List T3) (f : Nat) (out : List T3), l.length < f → out.length + l.length ≤ 200 → okFrom (lastTo out) l = true → readV f out (showFrom out.length l) = (out ++ l, 0, 0)
 | [], f, out, hf, _, _ => by
  cases f with
  | zero => simp at hf
  | succ f => simp [readV, showFrom]
 | t :: l, f, out, hf, hl, hk => by
  cases f with
  | zero => simp at hf
  | succ f =>
   unfold okFrom at hk
   simp only [Bool.and_eq_true] at hk
   simp only [List.length_cons] at hf hl
   have h0 : ¬ (block out.length t ++ showFrom (out.length+1) l = []):=fun e=>block_pos _ _ (List.append_eq_nil_iff.1 e).1
   rw [showFrom,readV,if_neg h0,step_block _ hk.1 (by omega)]
   simp only
   have:=readV_show l f (out ++ [t]) (by omega) (by simp;omega) (by rw [lastTo_snoc];exact hk.2)
   rw [List.length_append,List.length_singleton] at this
   rw [this]
   simp
theorem readV_back : ∀ (f : Nat) (out : List T3) (r : List UInt8) (m : List T3) (c : Int), r.length < f → out.length ≤ 200 → readV f out r = (m, 0, c) → c = 0 ∧ ∃ l, m = out ++ l ∧ okFrom (lastTo out) l = true ∧ r = showFrom out.length l ∧ m.length ≤ 200
 | 0, _, _, _, _, h, _, _ => by omega
 | f + 1, out, r, m, c, h, ho, hr => by
  unfold readV at hr
  split at hr
  ·rename_i he
   simp only [Prod.mk.injEq] at hr
   obtain⟨rfl,_,rfl⟩:=hr
   exact⟨rfl,[],by simp,rfl,he,ho⟩
  ·split at hr
   ·rename_i c' hs
    simp only [Prod.mk.injEq] at hr
    obtain⟨_,rfl,_⟩:=hr
    exfalso
    unfold stepV bodyV at hs
    repeat' split at hs
    all_goals first|(cases hs;done)|simp at hs
   ·rename_i t rest hs
    obtain⟨rfl,h1,h2⟩:=step_some hs
    have hp:=block_pos out.length t
    have hlen:rest.length < f:=by
     have:1≤(block out.length t).length:=List.length_pos_iff.2 hp
     simp at h;omega
    obtain⟨rfl,l,rfl,h3,h4,h5⟩:=readV_back f (out ++ [t]) rest m c hlen (by simp;omega) hr
    rw [lastTo_snoc] at h3
    rw [List.length_append,List.length_singleton] at h4
    refine⟨rfl,t :: l,by simp,?_,?_,h5⟩
    ·unfold okFrom
     rw [h1,h3]
     rfl
    ·rw [showFrom,h4]
theorem readV_len : ∀ (f : Nat) (out : List T3) (r : List UInt8), out.length ≤ 200 → (readV f out r).1.length ≤ 200
 | 0, out, r, h => h
 | f + 1, out, r, h => by
  unfold readV
  split
  ·exact h
  ·split
   ·simp
   ·rename_i t rest hs
    obtain⟨_,_,h2⟩:=step_some hs
    exact readV_len f _ _ (by simp;omega)
theorem readV_code : ∀ (f : Nat) (out : List T3) (r : List UInt8), (readV f out r).2.1 ≠ 0 → (readV f out r).1 = []
 | 0, out, r, h => absurd rfl h
 | f + 1, out, r, h => by
  unfold readV at h ⊢
  split at h
  ·exact absurd rfl h
  ·rename_i he
   rw [if_neg he]
   split at h
   ·rfl
   ·rename_i t rest hs
    exact readV_code f _ _ h
theorem readV_shown {f : Nat} {r : List UInt8} (hf : r.length < f) (h : (readV f [] r).2.1 = 0) : okList (readV f [] r).1 = true ∧ showV (readV f [] r).1 = r := by
 obtain⟨_,l,h1,h2,h3,h4⟩:=readV_back f [] r (readV f [] r).1 (readV f [] r).2.2 hf (by simp) (by rw [← h])
 have e:(readV f [] r).1=l:=by simpa using h1
 rw [e] at h4 ⊢
 have hk:okList l=true:=by
  unfold okList
  simp only [Bool.and_eq_true,decide_eq_true_eq]
  exact⟨h4,h2⟩
 refine⟨hk,?_⟩
 unfold showV
 rw [if_pos hk,h3]
 rfl
end Go.Proofs.YtidogkjhjmcliaaDoor.TM
