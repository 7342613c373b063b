-- Laid by myprint.py, a program of this repo, out of the kit's printer and this repo's own texts (wip/hand).
import Derived.Test.YtelcpfanjjfgdaaHFnExactVerifyx0
import Derived.Test.YtelcpfanjjfgdaaHFnExactVerifyx1
import Derived.Test.YtelcpfanjjfgdaaHFnExactVerifyx2
import Derived.Test.YtelcpfanjjfgdaaHFnExactVerifyx6
import Derived.Test.YtelcpfanjjfgdaaHFnExactVerifyx7
import Derived.Test.YtelcpfanjjfgdaaHFnExactVerifyx10
import Derived.Test.YtelcpfanjjfgdaaHFnExactVerifyx11
namespace Go.Proofs.Ytelcpfanjjfgdaa.HFnExactVerify
open Go.RowKit Go.Proofs.YtelcpfanjjfgdaaW.PrintWords Go.Proofs.YtelcpfanjjfgdaaW.PrintLast Go.Proofs.YtelcpfanjjfgdaaW.PrintMore
attribute [local go_sem] max2_int min2_int max_two min_two max_three min_three max_four min_four   -- for this text's walks alone
set_option linter.unusedVariables false
set_option linter.unusedSimpArgs false

/-! ### laws_markByteSS: function 46 -/
/-! ### what marks, told by sorts: the blocks of S may turn, each value to one of its sort -/
def Sim : Value → Value → Prop
 | .int k _, v => ∃ y, v = .int k y
 | .string _, v => ∃ s, v = .string s
 | u, v => v = u
theorem Sim.refl (u : Value) : Sim u u := by cases u <;> simp [Sim]
theorem Sim.trans {u v x : Value} (h : Sim u v) (k : Sim v x) : Sim u x := by
 cases u <;> simp only [Sim] at h <;> first | (obtain ⟨y, rfl⟩ := h; exact k) | (subst h; exact k)
structure Alk (S : Nat → Prop) (w w' : World) : Prop where
 kept : Kept w w' S
 sim : ∀ a u, w.cell? a = some u → ∃ u', w'.cell? a = some u' ∧ Sim u u'
 fro : ∀ a, a.block < w.heap.size → w'.frozen? a = w.frozen? a
theorem Alk.refl (S : Nat → Prop) (w : World) : Alk S w w := ⟨Kept.refl w S, fun _ u h => ⟨u, h, Sim.refl u⟩, fun _ _ => rfl⟩
theorem Alk.trans {S : Nat → Prop} {a b c : World} (h : Alk S a b) (k : Alk S b c) : Alk S a c :=
 ⟨h.kept.then_ k.kept (fun _ hk => .inl hk), fun p u hu => by
  obtain ⟨u1, h1, s1⟩ := h.sim p u hu
  obtain ⟨u2, h2, s2⟩ := k.sim p u1 h1
  exact ⟨u2, h2, s1.trans s2⟩, fun p hp => (k.fro p (Nat.lt_of_lt_of_le hp h.kept.1)).trans (h.fro p hp)⟩
theorem Alk.drewN {S : Nat → Prop} {w W : World} (h : Alk S w W) (n : Nat) : Alk S w (W.drewN n) := ⟨h.kept.drewN n, h.sim, h.fro⟩
theorem Alk.drew {S : Nat → Prop} {w W : World} (h : Alk S w W) : Alk S w W.drew := ⟨h.kept.drew, h.sim, h.fro⟩
theorem Alk.below {S : Nat → Prop} {w W V : World} (h : Alk S w W) (hb : Below W.heap.size W V) : Alk S w V :=
 h.trans ⟨Kept.of_below hb S, fun a u hu => ⟨u, (hb.cell (World.block_lt_of_cell? W a hu)).trans hu, Sim.refl u⟩, fun a hlt => hb.frozen hlt⟩
theorem Alk.set {S : Nat → Prop} {w W : World} {p : Addr} {u v : Value} (h : Alk S w W) (hp : S p.block) (hc : W.cell? p = some u) (hs : Sim u v) : Alk S w (W.setCell p v) :=
 h.trans ⟨(Kept.refl W S).setCell (.inl hp) v, fun a x hx => by
  by_cases e : p = a
  ·subst e
   rw [hc] at hx
   injection hx with hx
   subst hx
   exact ⟨v, World.cell?_setCell_same W p v hc, hs⟩
  ·exact ⟨x, (World.cell?_setCell_other W p a v e).trans hx, Sim.refl x⟩, fun a _ => World.frozen?_setCell _ _ _ _⟩
theorem Alk.int {S : Nat → Prop} {w W : World} {a : Addr} {k : IntKind} {x : Int} (h : Alk S w W) (hc : w.cell? a = some (.int k x)) : ∃ y, W.cell? a = some (.int k y) := by
 obtain ⟨u, h1, y, rfl⟩ := h.sim _ _ hc
 exact ⟨y, h1⟩
theorem Alk.str {S : Nat → Prop} {w W : World} {a : Addr} {s : ByteArray} (h : Alk S w W) (hc : w.cell? a = some (.string s)) : ∃ y, W.cell? a = some (.string y) := by
 obtain ⟨u, h1, y, rfl⟩ := h.sim _ _ hc
 exact ⟨y, h1⟩
theorem Alk.slice {S : Nat → Prop} {w W : World} {a : Addr} {A : Option Addr} {n c : Nat} (h : Alk S w W) (hc : w.cell? a = some (.slice A n c)) : W.cell? a = some (.slice A n c) := by
 obtain ⟨u, h1, h2⟩ := h.sim _ _ hc
 rw [h1]
 exact congrArg some h2
theorem Alk.fz {S : Nat → Prop} {w W : World} {a : Addr} {u : Value} (h : Alk S w W) (hc : w.cell? a = some u) (hf : w.frozen? a = false) : W.frozen? a = false := (h.fro a (World.block_lt_of_cell? w a hc)).trans hf
def Atu8 (S : Nat → Prop) (w : World) (g i : Nat) : Prop := ∃ x, w.cell? ⟨g, i, none⟩ = some (.int .u8 x) ∧ w.frozen? ⟨g, i, none⟩ = false
theorem Atu8.alk {S : Nat → Prop} {w W : World} {g i : Nat} (h : Atu8 S w g i) (ha : Alk S w W) : Atu8 S W g i := by
 obtain ⟨x, e0, f0⟩ := h
 obtain ⟨x', e0'⟩ := ha.int e0
 exact ⟨x', e0', ha.fz e0 f0⟩
/-- A row of bytes in the blocks of S. -/
def RowB (S : Nat → Prop) (w : World) (A : Option Addr) (n : Nat) : Prop := n = 0 ∨ ∃ g, A = some ⟨g, 0, none⟩ ∧ S g ∧ ∀ i : Nat, i < n → Atu8 S w g i
theorem RowB.alk {S : Nat → Prop} {w W : World} {A : Option Addr} {n : Nat} (h : RowB S w A n) (ha : Alk S w W) : RowB S W A n := by
 rcases h with h | ⟨g, hA, hS, hc⟩
 ·exact .inl h
 ·exact .inr ⟨g, hA, hS, fun i hi => (hc i hi).alk ha⟩
theorem RowB.of_R {ok S : Nat → Prop} {w : World} {base n c : Nat} {A : Option Addr} {xs : List Int} (h : (Kd.int .u8).R 5 w base ok (.slice A n c) xs) (hS : ∀ j, ok j → S j) : RowB S w A n := by
 obtain ⟨hn, _⟩ := Kd.R_reads' h
 by_cases h0 : n = 0
 ·exact .inl h0
 ·obtain ⟨g, c', e', _⟩ := Kd.R_form h (by omega)
  injection e' with ea _ _
  subst ea
  refine .inr ⟨g, rfl, hS g (h.1 g (by simp [Value.ownBlock])), fun i hi => ?_⟩
  obtain ⟨cs, hcl, hM, hcs, hf⟩ := Kd.R_elem h 0 (i : Int) (by omega) (by omega)
  rw [Int.toNat_natCast] at hM hcs hf
  have hsz : (Kd.int .u8).sz = 1 := rfl
  rw [hsz, Nat.mul_one] at hcs hf
  cases hM
  exact ⟨_, hcs 0 _ rfl, hf 0⟩
def AtStr (S : Nat → Prop) (w : World) (g i : Nat) : Prop := ∃ x, w.cell? ⟨g, i, none⟩ = some (.string x) ∧ w.frozen? ⟨g, i, none⟩ = false
theorem AtStr.alk {S : Nat → Prop} {w W : World} {g i : Nat} (h : AtStr S w g i) (ha : Alk S w W) : AtStr S W g i := by
 obtain ⟨x, e0, f0⟩ := h
 obtain ⟨x', e0'⟩ := ha.str e0
 exact ⟨x', e0', ha.fz e0 f0⟩
/-- A row of strings. -/
def RowS (S : Nat → Prop) (w : World) (A : Option Addr) (n : Nat) : Prop := n = 0 ∨ ∃ g, A = some ⟨g, 0, none⟩ ∧ S g ∧ ∀ i : Nat, i < n → AtStr S w g i
theorem RowS.alk {S : Nat → Prop} {w W : World} {A : Option Addr} {n : Nat} (h : RowS S w A n) (ha : Alk S w W) : RowS S W A n := by
 rcases h with h | ⟨g, hA, hS, hc⟩
 ·exact .inl h
 ·exact .inr ⟨g, hA, hS, fun i hi => (hc i hi).alk ha⟩
theorem RowS.of_R {ok S : Nat → Prop} {w : World} {base n c : Nat} {A : Option Addr} {xs : List ByteArray} (h : Kd.string.R 9 w base ok (.slice A n c) xs) (hS : ∀ j, ok j → S j) : RowS S w A n := by
 obtain ⟨hn, _⟩ := Kd.R_reads' h
 by_cases h0 : n = 0
 ·exact .inl h0
 ·obtain ⟨g, c', e', _⟩ := Kd.R_form h (by omega)
  injection e' with ea _ _
  subst ea
  refine .inr ⟨g, rfl, hS g (h.1 g (by simp [Value.ownBlock])), fun i hi => ?_⟩
  obtain ⟨cs, hcl, hM, hcs, hf⟩ := Kd.R_elem h ByteArray.empty (i : Int) (by omega) (by omega)
  rw [Int.toNat_natCast] at hM hcs hf
  have hsz : (Kd.string).sz = 1 := rfl
  rw [hsz, Nat.mul_one] at hcs hf
  cases hM
  exact ⟨_, hcs 0 _ rfl, hf 0⟩
def AtRow (S : Nat → Prop) (w : World) (g i : Nat) : Prop := ∃ A2 n2 c2, w.cell? ⟨g, i, none⟩ = some (.slice A2 n2 c2) ∧ w.frozen? ⟨g, i, none⟩ = false ∧ n2 ≤ 1048576 ∧ RowB S w A2 n2
theorem AtRow.alk {S : Nat → Prop} {w W : World} {g i : Nat} (h : AtRow S w g i) (ha : Alk S w W) : AtRow S W g i := by
 obtain ⟨A2, n2, c2, e0, f0, h2, hr⟩ := h
 exact ⟨A2, n2, c2, ha.slice e0, ha.fz e0 f0, h2, hr.alk ha⟩
/-- A row of rows of bytes. -/
def RowR (S : Nat → Prop) (w : World) (A : Option Addr) (n : Nat) : Prop := n = 0 ∨ ∃ g, A = some ⟨g, 0, none⟩ ∧ S g ∧ ∀ i : Nat, i < n → AtRow S w g i
theorem RowR.alk {S : Nat → Prop} {w W : World} {A : Option Addr} {n : Nat} (h : RowR S w A n) (ha : Alk S w W) : RowR S W A n := by
 rcases h with h | ⟨g, hA, hS, hc⟩
 ·exact .inl h
 ·exact .inr ⟨g, hA, hS, fun i hi => (hc i hi).alk ha⟩
theorem RowR.of_R {ok S : Nat → Prop} {w : World} {base n c : Nat} {A : Option Addr} {xs : List (List Int)} (h : (Kd.slice 5 (Kd.int .u8)).R 22 w base ok (.slice A n c) xs) (hS : ∀ j, ok j → S j) (hl : ∀ x ∈ xs, x.length ≤ 1048576) : RowR S w A n := by
 obtain ⟨hn, _⟩ := Kd.R_reads' h
 by_cases h0 : n = 0
 ·exact .inl h0
 ·obtain ⟨g, c', e', _⟩ := Kd.R_form h (by omega)
  injection e' with ea _ _
  subst ea
  refine .inr ⟨g, rfl, hS g (h.1 g (by simp [Value.ownBlock])), fun i hi => ?_⟩
  obtain ⟨cs, hcl, hM, hcs, hf⟩ := Kd.R_elem h ([] : List Int) (i : Int) (by omega) (by omega)
  rw [Int.toNat_natCast] at hM hcs hf
  have hsz : (Kd.slice 5 (Kd.int .u8)).sz = 1 := rfl
  rw [hsz, Nat.mul_one] at hcs hf
  obtain ⟨v2, rfl, g2⟩ := hM
  obtain ⟨A2, c2, rfl⟩ := Kd.R_slice g2
  have hd : (xs.getD i []).length ≤ 1048576 := hl _ (by rw [List.getD_eq_getElem?_getD, List.getElem?_eq_getElem (by omega)]; exact List.getElem_mem _)
  exact ⟨_, _, _, hcs 0 _ rfl, hf 0, hd, RowB.of_R g2 (fun j hj => hS j hj.1)⟩
def AtAst (S : Nat → Prop) (w : World) (g i : Nat) : Prop := ∃ s x y, w.cell? ⟨g, i * 3, none⟩ = some (.string s) ∧ w.cell? ⟨g, i * 3 + 1, none⟩ = some (.int .i64 x) ∧ w.cell? ⟨g, i * 3 + 2, none⟩ = some (.int .i64 y) ∧ w.frozen? ⟨g, i * 3, none⟩ = false ∧ w.frozen? ⟨g, i * 3 + 1, none⟩ = false ∧ w.frozen? ⟨g, i * 3 + 2, none⟩ = false
theorem AtAst.alk {S : Nat → Prop} {w W : World} {g i : Nat} (h : AtAst S w g i) (ha : Alk S w W) : AtAst S W g i := by
 obtain ⟨s, x, y, e0, e1, e2, f0, f1, f2⟩ := h
 obtain ⟨s', e0'⟩ := ha.str e0
 obtain ⟨x', e1'⟩ := ha.int e1
 obtain ⟨y', e2'⟩ := ha.int e2
 exact ⟨s', x', y', e0', e1', e2', ha.fz e0 f0, ha.fz e1 f1, ha.fz e2 f2⟩
/-- A row of assets. -/
def RowA (S : Nat → Prop) (w : World) (A : Option Addr) (n : Nat) : Prop := n = 0 ∨ ∃ g, A = some ⟨g, 0, none⟩ ∧ S g ∧ ∀ i : Nat, i < n → AtAst S w g i
theorem RowA.alk {S : Nat → Prop} {w W : World} {A : Option Addr} {n : Nat} (h : RowA S w A n) (ha : Alk S w W) : RowA S W A n := by
 rcases h with h | ⟨g, hA, hS, hc⟩
 ·exact .inl h
 ·exact .inr ⟨g, hA, hS, fun i hi => (hc i hi).alk ha⟩
theorem RowA.of_R {ok S : Nat → Prop} {w : World} {base n c : Nat} {A : Option Addr} {xs : List S71} (h : k71.R 71 w base ok (.slice A n c) xs) (hS : ∀ j, ok j → S j) : RowA S w A n := by
 obtain ⟨hn, _⟩ := Kd.R_reads' h
 by_cases h0 : n = 0
 ·exact .inl h0
 ·obtain ⟨g, c', e', _⟩ := Kd.R_form h (by omega)
  injection e' with ea _ _
  subst ea
  refine .inr ⟨g, rfl, hS g (h.1 g (by simp [Value.ownBlock])), fun i hi => ?_⟩
  obtain ⟨cs, hcl, hM, hcs, hf⟩ := Kd.R_elem h z71 (i : Int) (by omega) (by omega)
  rw [Int.toNat_natCast] at hM hcs hf
  have hsz : k71.sz = 3 := rfl
  rw [hsz] at hcs hf
  obtain ⟨_, _, rfl, rfl, ⟨_, _, rfl, rfl, rfl⟩⟩ := hM
  exact ⟨_, _, _, hcs 0 _ rfl, hcs 1 _ rfl, hcs 2 _ rfl, hf 0, hf 1, hf 2⟩
set_option maxHeartbeats 4000000 in
set_option maxRecDepth 100000 in
theorem mark_bytes (S : Nat → Prop) (A : Option Addr) (n c : Nat) (a1 : Int) (w0 w : World) (hB : Below w0.heap.size w0 w) (hS : ∀ k, S k → w0.heap.size ≤ k) (hr : RowB S w A n) (hb : 0 ≤ a1 ∧ a1 ≤ 35184372088832 ∧ n ≤ 1048576) :
  Calls Try.prog 19 #[.slice A n c, .int .i64 a1] w fun e w' => e = .returned (.int .i64 (a1 + (n : Int))) ∧ Alk S w w' ∧ Below w0.heap.size w0 w' := by
 have HB := Aside0.mk hB
 have HA := Aside0.mk (Alk.refl S w)
 have HS := Aside0.mk hS
 have HR := Aside0.mk hr
 have HN := Aside0.mk hb
 clear hB hS hr hb
 go_enter Try.func19, Try.ntmps19
 go_wp2
 go_loopg [1, 5] n (fun gg v1 v5 w' => ∃ i : Nat, Aside0 (i ≤ n ∧ n - i ≤ gg) ∧ v1 = .int .i64 (a1 + (i : Int)) ∧ v5 = .int .i64 (i : Int) ∧ Aside0 (Below w0.heap.size w0 w') ∧ Aside0 (Alk S w w'))
 case atStart => exact ⟨0, ⟨Nat.zero_le _, Nat.le_refl _⟩, by simp, rfl, ⟨(by repeat (first | (with_reducible first | exact HB.out | apply below_alloc | apply pw_below_drewN | apply below_drew1) | exact HB.out))⟩, ⟨(by repeat (first | exact HA.out | apply Alk.drewN | apply Alk.drew))⟩⟩
 case round =>
  clear HB HA
  obtain ⟨i, HI, rfl, rfl, HB, HA⟩ := hrel
  by_cases hlt : i < n
  ·have hltb : decide ((i : Int) < (n : Int)) = true := decide_eq_true (by omega)
   have p0 : (0 ≤ (i : Int)) = True := eq_true (by omega)
   have q0 : ((i : Int) < (n : Int)) = True := eq_true (by omega)
   obtain ⟨g, hA, hg, hc⟩ := HR.out.resolve_left (by omega)
   subst hA
   have HG := Aside0.mk hg
   have HT := Aside0.mk (hc i hlt)
   clear hg hc
   have HI2 := Aside0.mk (show i ≤ 1048576 by have := HN.out; omega)
   obtain ⟨x, hx, hf⟩ := HT.out.alk HA.out
   have HX := Aside0.mk hx
   have HW := Aside0.mk (show wrap64 (a1 + (i : Int) + 1) = a1 + ((i + 1 : Nat) : Int) by have := HN.out; have := HI2.out; unfold wrap64; omega)
   have HW2 := Aside0.mk (show wrap64 ((i : Int) + 1) = ((i + 1 : Nat) : Int) by have := HI2.out; unfold wrap64; omega)
   go_wp2_with (first | ((with_reducible refine gate_store (t := 5) (p := 16) rfl ?_); refine store_event (t := 5) (p := 16) (v := ?vo16) (w1 := (wr.setCell ⟨g, i, none⟩ (.int .u8 ((a1 + (i : Int)) % 256)))) ?hg16 ?ho16 ?hn16 ?hr16 ?_; (case ho16 => rfl); (case hg16 => rfl); (case hn16 => rfl); (case hr16 => first | (go_simp; done) | (go_simp; rfl)); intro ws_ hw_; (have n0_ := Aside0.mk (show Below w0.heap.size w0 ws_ by (rw [hw_]; exact below_set (by repeat (first | (with_reducible first | exact HB.out | apply below_alloc | apply pw_below_drewN | apply below_drew1) | exact HB.out)) (HS.out g HG.out))); have n1_ := Aside0.mk (show Alk S w ws_ by (rw [hw_]; exact Alk.set (by repeat (first | exact HA.out | apply Alk.drewN | apply Alk.drew)) HG.out HX.out ⟨_, rfl⟩)); clear HB HA; have HB := n0_; have HA := n1_; clear n0_ n1_ hw_ HX hx hf)))
   go_roundg (n - (i + 1))
   case measure => have := HI.out; omega
   case rel => exact ⟨i + 1, ⟨by omega, by omega⟩, by first | rw [HW.out] | (simp only [HW.out]), by first | rw [HW2.out] | (simp only [HW2.out]), ⟨(by repeat (first | (with_reducible first | exact HB.out | apply below_alloc | apply pw_below_drewN | apply below_drew1) | exact HB.out))⟩, ⟨(by repeat (first | exact HA.out | apply Alk.drewN | apply Alk.drew))⟩⟩
  ·have hltb : decide ((i : Int) < (n : Int)) = false := decide_eq_false (by omega)
   have hi : i = n := by have := HI.out; omega
   subst hi
   go_wp2
   go_ret
   exact ⟨rfl, (by repeat (first | exact HA.out | apply Alk.drewN | apply Alk.drew)), (by repeat (first | (with_reducible first | exact HB.out | apply below_alloc | apply pw_below_drewN | apply below_drew1) | exact HB.out))⟩
set_option maxHeartbeats 4000000 in
set_option maxRecDepth 100000 in
theorem mark_strings (S : Nat → Prop) (k : Nat) (hT : ∀ a : Int, 0 ≤ a → a ≤ 9000000000000 → ∃ s, laws_markText.f k a = some s) (A : Option Addr) (n c : Nat) (a1 : Int) (w0 w : World) (hB : Below w0.heap.size w0 w) (hS : ∀ k, S k → w0.heap.size ≤ k) (hr : RowS S w A n) (hb : 0 ≤ a1 ∧ a1 ≤ 4000000000000 ∧ n ≤ 1048576) :
  Calls Try.prog 35 #[.slice A n c, .int .i64 a1] w fun e w' => e = .returned (.int .i64 (a1 + (n : Int))) ∧ Alk S w w' ∧ Below w0.heap.size w0 w' := by
 have HB := Aside0.mk hB
 have HA := Aside0.mk (Alk.refl S w)
 have HS := Aside0.mk hS
 have HR := Aside0.mk hr
 have HN := Aside0.mk hb
 clear hB hS hr hb
 have HTX := Aside0.mk hT
 clear hT
 go_enter Try.func35, Try.ntmps35
 go_wp2
 go_loopg [1, 5] n (fun gg v1 v5 w' => ∃ i : Nat, Aside0 (i ≤ n ∧ n - i ≤ gg) ∧ v1 = .int .i64 (a1 + (i : Int)) ∧ v5 = .int .i64 (i : Int) ∧ Aside0 (Below w0.heap.size w0 w') ∧ Aside0 (Alk S w w'))
 case atStart => exact ⟨0, ⟨Nat.zero_le _, Nat.le_refl _⟩, by simp, rfl, ⟨(by repeat (first | (with_reducible first | exact HB.out | apply below_alloc | apply pw_below_drewN | apply below_drew1) | exact HB.out))⟩, ⟨(by repeat (first | exact HA.out | apply Alk.drewN | apply Alk.drew))⟩⟩
 case round =>
  clear HB HA
  obtain ⟨i, HI, rfl, rfl, HB, HA⟩ := hrel
  by_cases hlt : i < n
  ·have hltb : decide ((i : Int) < (n : Int)) = true := decide_eq_true (by omega)
   have p0 : (0 ≤ (i : Int)) = True := eq_true (by omega)
   have q0 : ((i : Int) < (n : Int)) = True := eq_true (by omega)
   obtain ⟨g, hA, hg, hc⟩ := HR.out.resolve_left (by omega)
   subst hA
   have HG := Aside0.mk hg
   have HT := Aside0.mk (hc i hlt)
   clear hg hc
   have HI2 := Aside0.mk (show i ≤ 1048576 by have := HN.out; omega)
   obtain ⟨x, hx, hf⟩ := HT.out.alk HA.out
   have HW := Aside0.mk (show wrap64 (a1 + (i : Int) + 1) = a1 + ((i + 1 : Nat) : Int) by have := HN.out; have := HI2.out; unfold wrap64; omega)
   have HW2 := Aside0.mk (show wrap64 ((i : Int) + 1) = ((i + 1 : Nat) : Int) by have := HI2.out; unfold wrap64; omega)
   go_wp2_with (first | (go_at_call 74; obtain ⟨ts_, hts_⟩ := HTX.out (a1 + (i : Int)) (by have := HN.out; omega) (by have := HN.out; have := HI2.out; omega); (with_reducible refine (laws_markText.calls k _ ts_ _ hts_).mono ?_); rintro e wk_ ⟨rfl, hb_⟩; have n0_ := Aside0.mk (below_step (by repeat (first | (with_reducible first | exact HB.out | apply below_alloc | apply pw_below_drewN | apply below_drew1) | exact HB.out)) hb_); have n1_ := Aside0.mk (Alk.below (by repeat (first | exact HA.out | apply Alk.drewN | apply Alk.drew)) hb_); clear HB HA; have HB := n0_; have HA := n1_; clear n0_ n1_ hb_ hx hf; obtain ⟨x2, hx, hf⟩ := HT.out.alk HA.out; have HX := Aside0.mk hx) | ((with_reducible refine gate_store (t := 9) (p := 16) rfl ?_); refine store_event (t := 9) (p := 16) (v := ?vo16) (w1 := (wk_.setCell ⟨g, i, none⟩ (.string ts_))) ?hg16 ?ho16 ?hn16 ?hr16 ?_; (case ho16 => rfl); (case hg16 => rfl); (case hn16 => rfl); (case hr16 => first | (go_simp; done) | (go_simp; rfl)); intro ws_ hw_; (have n0_ := Aside0.mk (show Below w0.heap.size w0 ws_ by (rw [hw_]; exact below_set (by repeat (first | (with_reducible first | exact HB.out | apply below_alloc | apply pw_below_drewN | apply below_drew1) | exact HB.out)) (HS.out g HG.out))); have n1_ := Aside0.mk (show Alk S w ws_ by (rw [hw_]; exact Alk.set (by repeat (first | exact HA.out | apply Alk.drewN | apply Alk.drew)) HG.out HX.out ⟨_, rfl⟩)); clear HB HA; have HB := n0_; have HA := n1_; clear n0_ n1_ hw_ HX hx hf)))
   go_roundg (n - (i + 1))
   case measure => have := HI.out; omega
   case rel => exact ⟨i + 1, ⟨by omega, by omega⟩, by first | rw [HW.out] | (simp only [HW.out]), by first | rw [HW2.out] | (simp only [HW2.out]), ⟨(by repeat (first | (with_reducible first | exact HB.out | apply below_alloc | apply pw_below_drewN | apply below_drew1) | exact HB.out))⟩, ⟨(by repeat (first | exact HA.out | apply Alk.drewN | apply Alk.drew))⟩⟩
  ·have hltb : decide ((i : Int) < (n : Int)) = false := decide_eq_false (by omega)
   have hi : i = n := by have := HI.out; omega
   subst hi
   go_wp2
   go_ret
   exact ⟨rfl, (by repeat (first | exact HA.out | apply Alk.drewN | apply Alk.drew)), (by repeat (first | (with_reducible first | exact HB.out | apply below_alloc | apply pw_below_drewN | apply below_drew1) | exact HB.out))⟩
set_option maxHeartbeats 4000000 in
set_option maxRecDepth 100000 in
theorem mark_assets (S : Nat → Prop) (k : Nat) (hT : ∀ a : Int, 0 ≤ a → a ≤ 9000000000000 → ∃ s, laws_markText.f k a = some s) (A : Option Addr) (n c : Nat) (a1 : Int) (w0 w : World) (hB : Below w0.heap.size w0 w) (hS : ∀ k, S k → w0.heap.size ≤ k) (hr : RowA S w A n) (hb : 0 ≤ a1 ∧ a1 ≤ 4000000000000 ∧ n ≤ 1048576) :
  Calls Try.prog 34 #[.slice A n c, .int .i64 a1] w fun e w' => e = .returned (.int .i64 (a1 + 3 * (n : Int))) ∧ Alk S w w' ∧ Below w0.heap.size w0 w' := by
 have HB := Aside0.mk hB
 have HA := Aside0.mk (Alk.refl S w)
 have HS := Aside0.mk hS
 have HR := Aside0.mk hr
 have HN := Aside0.mk hb
 clear hB hS hr hb
 have HTX := Aside0.mk hT
 clear hT
 go_enter Try.func34, Try.ntmps34
 go_wp2
 go_loopg [1, 5] n (fun gg v1 v5 w' => ∃ i : Nat, Aside0 (i ≤ n ∧ n - i ≤ gg) ∧ v1 = .int .i64 (a1 + 3 * (i : Int)) ∧ v5 = .int .i64 (i : Int) ∧ Aside0 (Below w0.heap.size w0 w') ∧ Aside0 (Alk S w w'))
 case atStart => exact ⟨0, ⟨Nat.zero_le _, Nat.le_refl _⟩, by simp, rfl, ⟨(by repeat (first | (with_reducible first | exact HB.out | apply below_alloc | apply pw_below_drewN | apply below_drew1) | exact HB.out))⟩, ⟨(by repeat (first | exact HA.out | apply Alk.drewN | apply Alk.drew))⟩⟩
 case round =>
  clear HB HA
  obtain ⟨i, HI, rfl, rfl, HB, HA⟩ := hrel
  by_cases hlt : i < n
  ·have hltb : decide ((i : Int) < (n : Int)) = true := decide_eq_true (by omega)
   have p0 : (0 ≤ (i : Int)) = True := eq_true (by omega)
   have q0 : ((i : Int) < (n : Int)) = True := eq_true (by omega)
   obtain ⟨g, hA, hg, hc⟩ := HR.out.resolve_left (by omega)
   subst hA
   have HG := Aside0.mk hg
   have HT := Aside0.mk (hc i hlt)
   clear hg hc
   have HI2 := Aside0.mk (show i ≤ 1048576 by have := HN.out; omega)
   obtain ⟨s, x, y, e0, e1, e2, f0, f1, f2⟩ := HT.out.alk HA.out
   have HW := Aside0.mk (show wrap64 (wrap64 (wrap64 (a1 + 3 * (i : Int) + 1) + 1) + 1) = a1 + 3 * ((i + 1 : Nat) : Int) by have := HN.out; have := HI2.out; unfold wrap64; omega)
   have HW2 := Aside0.mk (show wrap64 ((i : Int) + 1) = ((i + 1 : Nat) : Int) by have := HI2.out; unfold wrap64; omega)
   go_wp2_with (first | (go_at_call 74; obtain ⟨ts_, hts_⟩ := HTX.out (a1 + 3 * (i : Int)) (by have := HN.out; omega) (by have := HN.out; have := HI2.out; omega); (with_reducible refine (laws_markText.calls k _ ts_ _ hts_).mono ?_); rintro e wk_ ⟨rfl, hb_⟩; have n0_ := Aside0.mk (below_step (by repeat (first | (with_reducible first | exact HB.out | apply below_alloc | apply pw_below_drewN | apply below_drew1) | exact HB.out)) hb_); have n1_ := Aside0.mk (Alk.below (by repeat (first | exact HA.out | apply Alk.drewN | apply Alk.drew)) hb_); clear HB HA; have HB := n0_; have HA := n1_; clear n0_ n1_ hb_  e0 e1 e2 f0 f1 f2; obtain ⟨s1, x1, y1, e0, e1, e2, f0, f1, f2⟩ := HT.out.alk HA.out; have HE0 := Aside0.mk e0) | ((with_reducible refine gate_store (t := 9) (p := 17) rfl ?_); refine store_event (t := 9) (p := 17) (v := ?vo17) (w1 := (wk_.setCell ⟨g, i * 3, none⟩ (.string ts_))) ?hg17 ?ho17 ?hn17 ?hr17 ?_; (case ho17 => rfl); (case hg17 => rfl); (case hn17 => rfl); (case hr17 => first | (go_simp; done) | (go_simp; rfl)); intro ws_ hw_; (have n0_ := Aside0.mk (show Below w0.heap.size w0 ws_ by (rw [hw_]; exact below_set (by repeat (first | (with_reducible first | exact HB.out | apply below_alloc | apply pw_below_drewN | apply below_drew1) | exact HB.out)) (HS.out g HG.out))); have n1_ := Aside0.mk (show Alk S w ws_ by (rw [hw_]; exact Alk.set (by repeat (first | exact HA.out | apply Alk.drewN | apply Alk.drew)) HG.out HE0.out ⟨_, rfl⟩)); clear HB HA; have HB := n0_; have HA := n1_; clear n0_ n1_ hw_ e0 e1 e2 f0 f1 f2); obtain ⟨s2, x2, y2, e0, e1, e2, f0, f1, f2⟩ := HT.out.alk HA.out; have HE1 := Aside0.mk e1) | ((with_reducible refine gate_store (t := 2) (p := 24) rfl ?_); refine store_event (t := 2) (p := 24) (v := ?vo24) (w1 := (ws_.setCell ⟨g, i * 3 + 1, none⟩ (.int .i64 (wrap64 (a1 + 3 * (i : Int) + 1))))) ?hg24 ?ho24 ?hn24 ?hr24 ?_; (case ho24 => rfl); (case hg24 => rfl); (case hn24 => rfl); (case hr24 => first | (go_simp; done) | (go_simp; rfl)); intro ws_ hw_; (have n0_ := Aside0.mk (show Below w0.heap.size w0 ws_ by (rw [hw_]; exact below_set (by repeat (first | (with_reducible first | exact HB.out | apply below_alloc | apply pw_below_drewN | apply below_drew1) | exact HB.out)) (HS.out g HG.out))); have n1_ := Aside0.mk (show Alk S w ws_ by (rw [hw_]; exact Alk.set (by repeat (first | exact HA.out | apply Alk.drewN | apply Alk.drew)) HG.out HE1.out ⟨_, rfl⟩)); clear HB HA; have HB := n0_; have HA := n1_; clear n0_ n1_ hw_ e0 e1 e2 f0 f1 f2); obtain ⟨s3, x3, y3, e0, e1, e2, f0, f1, f2⟩ := HT.out.alk HA.out; have HE2 := Aside0.mk e2) | ((with_reducible refine gate_store (t := 2) (p := 31) rfl ?_); refine store_event (t := 2) (p := 31) (v := ?vo31) (w1 := (ws_.setCell ⟨g, i * 3 + 2, none⟩ (.int .i64 (wrap64 (wrap64 (a1 + 3 * (i : Int) + 1) + 1))))) ?hg31 ?ho31 ?hn31 ?hr31 ?_; (case ho31 => rfl); (case hg31 => rfl); (case hn31 => rfl); (case hr31 => first | (go_simp; done) | (go_simp; rfl)); intro ws_ hw_; (have n0_ := Aside0.mk (show Below w0.heap.size w0 ws_ by (rw [hw_]; exact below_set (by repeat (first | (with_reducible first | exact HB.out | apply below_alloc | apply pw_below_drewN | apply below_drew1) | exact HB.out)) (HS.out g HG.out))); have n1_ := Aside0.mk (show Alk S w ws_ by (rw [hw_]; exact Alk.set (by repeat (first | exact HA.out | apply Alk.drewN | apply Alk.drew)) HG.out HE2.out ⟨_, rfl⟩)); clear HB HA; have HB := n0_; have HA := n1_; clear n0_ n1_ hw_ e0 e1 e2 f0 f1 f2)))
   go_roundg (n - (i + 1))
   case measure => have := HI.out; omega
   case rel => exact ⟨i + 1, ⟨by omega, by omega⟩, by first | rw [HW.out] | (simp only [HW.out]), by first | rw [HW2.out] | (simp only [HW2.out]), ⟨(by repeat (first | (with_reducible first | exact HB.out | apply below_alloc | apply pw_below_drewN | apply below_drew1) | exact HB.out))⟩, ⟨(by repeat (first | exact HA.out | apply Alk.drewN | apply Alk.drew))⟩⟩
  ·have hltb : decide ((i : Int) < (n : Int)) = false := decide_eq_false (by omega)
   have hi : i = n := by have := HI.out; omega
   subst hi
   go_wp2
   go_ret
   exact ⟨rfl, (by repeat (first | exact HA.out | apply Alk.drewN | apply Alk.drew)), (by repeat (first | (with_reducible first | exact HB.out | apply below_alloc | apply pw_below_drewN | apply below_drew1) | exact HB.out))⟩
set_option maxHeartbeats 4000000 in
set_option maxRecDepth 100000 in
theorem mark_rows (S : Nat → Prop) (A : Option Addr) (n c : Nat) (a1 : Int) (w0 w : World) (hB : Below w0.heap.size w0 w) (hS : ∀ k, S k → w0.heap.size ≤ k) (hr : RowR S w A n) (hb : 0 ≤ a1 ∧ a1 ≤ 8388608 ∧ n ≤ 1048576) :
  Calls Try.prog 46 #[.slice A n c, .int .i64 a1] w fun e w' => (∃ r : Int, e = .returned (.int .i64 r) ∧ 0 ≤ r) ∧ Alk S w w' ∧ Below w0.heap.size w0 w' := by
 have HB := Aside0.mk hB
 have HA := Aside0.mk (Alk.refl S w)
 have HS := Aside0.mk hS
 have HR := Aside0.mk hr
 have HN := Aside0.mk hb
 clear hB hS hr hb
 go_enter Try.func46, Try.ntmps46
 go_wp2
 go_loopg [1, 5] n (fun gg v1 v5 w' => ∃ (i : Nat) (r : Int), Aside0 (i ≤ n ∧ n - i ≤ gg) ∧ v1 = .int .i64 r ∧ Aside0 (0 ≤ r ∧ r ≤ a1 + (i : Int) * 1048576) ∧ v5 = .int .i64 (i : Int) ∧ Aside0 (Below w0.heap.size w0 w') ∧ Aside0 (Alk S w w'))
 case atStart => exact ⟨0, a1, ⟨Nat.zero_le _, Nat.le_refl _⟩, rfl, ⟨HN.out.1, by omega⟩, rfl, ⟨(by repeat (first | (with_reducible first | exact HB.out | apply below_alloc | apply pw_below_drewN | apply below_drew1) | exact HB.out))⟩, ⟨(by repeat (first | exact HA.out | apply Alk.drewN | apply Alk.drew))⟩⟩
 case round =>
  clear HB HA
  obtain ⟨i, r, HI, rfl, HV, rfl, HB, HA⟩ := hrel
  by_cases hlt : i < n
  ·have hltb : decide ((i : Int) < (n : Int)) = true := decide_eq_true (by omega)
   have p0 : (0 ≤ (i : Int)) = True := eq_true (by omega)
   have q0 : ((i : Int) < (n : Int)) = True := eq_true (by omega)
   obtain ⟨g, hA, hg, hc⟩ := HR.out.resolve_left (by omega)
   subst hA
   have HG := Aside0.mk hg
   have HT := Aside0.mk (hc i hlt)
   clear hg hc
   have HI2 := Aside0.mk (show i ≤ 1048576 by have := HN.out; omega)
   obtain ⟨A2, n2, c2, e0, f0, h2, hr2⟩ := HT.out.alk HA.out
   have hv2 := Aside0.mk (show r ≤ 1099520016384 by have := HV.out; have := HN.out; have := HI.out; omega)
   have HW2 := Aside0.mk (show wrap64 ((i : Int) + 1) = ((i + 1 : Nat) : Int) by have := HI2.out; unfold wrap64; omega)
   go_wp2_with (first | (go_at_call 19; (with_reducible refine (mark_bytes S A2 n2 c2 r w0 _ ?s1 HS.out ?s2 ?s3).mono ?_); (case s1 => exact (by repeat (first | (with_reducible first | exact HB.out | apply below_alloc | apply pw_below_drewN | apply below_drew1) | exact HB.out))); (case s2 => exact hr2); (case s3 => exact ⟨HV.out.1, by have := hv2.out; omega, h2⟩); rintro e wk_ ⟨rfl, ha_, hb_⟩; have n0_ := Aside0.mk hb_; have n1_ := Aside0.mk (Alk.trans (show Alk S w _ from (by repeat (first | exact HA.out | apply Alk.drewN | apply Alk.drew))) ha_); have HW := Aside0.mk h2; clear HB HA; have HB := n0_; have HA := n1_; clear n0_ n1_ ha_ hb_ e0 f0 h2 hr2))
   go_roundg (n - (i + 1))
   case measure => have := HI.out; omega
   case rel => exact ⟨i + 1, r + (n2 : Int), ⟨by omega, by omega⟩, rfl, ⟨by have := HV.out; omega, by have := HV.out; have := HW.out; omega⟩, by first | rw [HW2.out] | (simp only [HW2.out]), ⟨(by repeat (first | (with_reducible first | exact HB.out | apply below_alloc | apply pw_below_drewN | apply below_drew1) | exact HB.out))⟩, ⟨(by repeat (first | exact HA.out | apply Alk.drewN | apply Alk.drew))⟩⟩
  ·have hltb : decide ((i : Int) < (n : Int)) = false := decide_eq_false (by omega)
   have hi : i = n := by have := HI.out; omega
   subst hi
   go_wp2
   go_ret
   exact ⟨⟨r, rfl, HV.out.1⟩, (by repeat (first | exact HA.out | apply Alk.drewN | apply Alk.drew)), (by repeat (first | (with_reducible first | exact HB.out | apply below_alloc | apply pw_below_drewN | apply below_drew1) | exact HB.out))⟩


/-! ### laws_markInt64S: function 47 -/
def laws_markInt64S.l0 : Nat → List Int → Int → Int → Option (Int × List Int)
 | 0, _, _, _ => none
 | k + 1, x0, x1, x5 => if x5 < (x0.length : Int) then (if 0 ≤ x5 then (laws_markInt64S.l0 k (x0.set (x5 : Int).toNat x1) (wrap64 (x1 + 1)) (wrap64 (x5 + 1))) else (none)) else (some (x1, x0))
def laws_markInt64S.f (k : Nat) (l0 : List Int) (a1 : Int) : Option (Int × List Int) := laws_markInt64S.l0 k l0 a1 0
theorem laws_markInt64S.mono_l : ∀ k, (∀ y0 y1 y2, LeO (laws_markInt64S.l0 k y0 y1 y2) (laws_markInt64S.l0 (k + 1) y0 y1 y2))
 | 0 => fun _ _ _ r h => by simp [laws_markInt64S.l0] at h
 | k + 1 => by
  have ih0 := laws_markInt64S.mono_l k
  ·intro y0 y1 y2
   unfold laws_markInt64S.l0
   repeat' first
   | (with_reducible exact ih0 _ _ _)
   | (with_reducible exact LeO.refl _)
   | (with_reducible exact LeO.none _)
   | (with_reducible refine LeO.ite ?_ ?_)
   | (with_reducible refine LeO.bind ?_ (fun _ => ?_))
   | exact ih0 _ _ _
   | exact LeO.none _
   | refine LeO.ite ?_ ?_
   | refine LeO.bind ?_ (fun _ => ?_)
theorem laws_markInt64S.mono : ∀ a0 a1 k, LeO (laws_markInt64S.f k a0 a1) (laws_markInt64S.f (k + 1) a0 a1) := by
 intro a0 a1 k
 have ih0 := laws_markInt64S.mono_l k
 unfold laws_markInt64S.f
 repeat' first
   | (with_reducible exact ih0 _ _ _)
   | (with_reducible exact LeO.refl _)
   | (with_reducible exact LeO.none _)
   | (with_reducible refine LeO.ite ?_ ?_)
   | (with_reducible refine LeO.bind ?_ (fun _ => ?_))
   | exact ih0 _ _ _
   | exact LeO.none _
   | refine LeO.ite ?_ ?_
   | refine LeO.bind ?_ (fun _ => ?_)
set_option maxHeartbeats 8000000 in
set_option maxRecDepth 100000 in
theorem laws_markInt64S.calls (k : Nat) (P0_ : Nat → Prop) (u9000_ : Value) (l0 : List Int) (a1 : Int) (r1 : Int) (r2 : List Int) (w0 w : World) (hB : Below w0.heap.size w0 w) (ho0 : Kd.R (Kd.int .i64) 2 w w0.heap.size P0_ u9000_ l0) (h : laws_markInt64S.f k l0 a1 = some (r1, r2)) :
  Calls Try.prog 47 #[u9000_, .int .i64 a1] w fun e w' => e = .returned (.int .i64 r1) ∧ Kd.R (Kd.int .i64) 2 w' w0.heap.size (fun k_ => (P0_ k_ ∨ w.heap.size ≤ k_)) u9000_ r2 ∧ Below w0.heap.size w0 w' ∧ Kept w w' (fun k_ => P0_ k_) := by
 have HO0 := Aside0.mk (show Kd.R (Kd.int .i64) 2 w w0.heap.size (fun k_ => (P0_ k_ ∨ w.heap.size ≤ k_)) u9000_ l0 from Kd.R_mono ho0 (fun k_ hk => (.inl hk)))
 have HK := Aside0.mk (Kept.refl w (fun k_ => P0_ k_))
 have HW0 := Aside0.mk hB.size
 have HB := Aside0.mk hB
 clear hB
 have H : (laws_markInt64S.l0 k l0 a1 0) = some (r1, r2) := h
 clear h
 have H' := Aside0.mk H
 clear H
 go_enter Try.func47, Try.ntmps47
 go_wp2
 go_loopg [1, 5] k (fun kq v1 v5 w' => ∃ (x0_1 : List Int) (x1_1 : Int) (x5_1 : Int), v1 = .int .i64 x1_1 ∧ v5 = .int .i64 x5_1 ∧ Aside0 (laws_markInt64S.l0 kq x0_1 x1_1 x5_1 = some (r1, r2)) ∧ Aside0 (kq ≤ k) ∧ Aside0 (Kd.R (Kd.int .i64) 2 w' w0.heap.size (fun k_ => (P0_ k_ ∨ w.heap.size ≤ k_)) u9000_ x0_1) ∧ Aside0 (Kept w w' (fun k_ => P0_ k_)) ∧ Aside0 (Below w0.heap.size w0 w'))
 case atStart => exact ⟨(l0), (a1), (0), (by first | rfl | (simp; done) | (simp [*]; done)), (by first | rfl | (simp; done) | (simp [*]; done)), H', ⟨Nat.le_refl _⟩, ⟨by (with_reducible repeat (first | apply Kd.R_alloc | apply Kd.R_drewN | apply Kd.R_drew)); exact HO0.out⟩, ⟨by repeat (first | (with_reducible first | exact HK.out | apply Kept.alloc | apply Kept.drewN | apply Kept.drew) | exact HK.out)⟩, ⟨by repeat (first | (with_reducible first | exact HB.out | apply below_alloc | apply pw_below_drewN | apply below_drew1) | exact HB.out)⟩⟩
 case round =>
  clear H'
  try clear p2
  obtain ⟨x0_1, x1_1, x5_1, rfl, rfl, HA, HK1, HO_0, HK, HB⟩ := hrel
  cases gk with
  | zero => exact absurd HA.out (by simp [laws_markInt64S.l0])
  | succ k1 =>
   have H := HA.out
   clear HA
   simp only [laws_markInt64S.l0] at H
   by_cases c3 : x5_1 < (x0_1.length : Int)
   ·rw [if_pos c3] at H
    have c3b0 : decide (x5_1 < (x0_1.length : Int)) = true := decide_eq_true c3
    clear c3
    by_cases c4 : 0 ≤ x5_1
    ·rw [if_pos c4] at H
     have c4b0 : decide (0 ≤ x5_1) = true := decide_eq_true c4
     clear c4
     obtain ⟨y219, hy219⟩ : ∃ y_ : List Int, y_ = (x0_1.set (x5_1 : Int).toNat x1_1) := ⟨_, rfl⟩
     replace H : (laws_markInt64S.l0 k1 y219 (wrap64 (x1_1 + 1)) (wrap64 (x5_1 + 1))) = some (r1, r2) := by first | (rw [hy219]; with_reducible exact H) | (have H2_ := (Option.bind_some _ _).symm.trans H; rw [hy219]; with_reducible exact H2_) | (have H2_ := (Option.bind_some _ _).symm.trans H; with_reducible exact H2_) | with_reducible exact H | (rw [hy219]; exact H) | exact H
     have Ny219 := Aside0.mk hy219
     clear hy219
     have H' := Aside0.mk H
     clear H
     obtain ⟨Ao6, co6, eo6⟩ := Kd.R_slice HO_0.out
     subst eo6
     have p5 : 0 ≤ (x5_1 : Int) := of_decide_eq_true (by first | (with_reducible assumption) | assumption)
     have q5 : (x5_1 : Int) < ((x0_1.length : Int) : Int) := of_decide_eq_true (by first | (with_reducible assumption) | assumption)
     obtain ⟨go5, co5, eo5, gb5, gl5, cl5, HG5⟩ := Kd.R_form HO_0.out (by omega)
     (first | cases eo5 | (injection eo5 with ea_ en_ ec_; (first | subst ea_ | (injection ea_ with ea_; subst ea_)); subst ec_; clear en_))
     have GB5 := Aside0.mk gb5
     have GG5 := Aside0.mk HG5
     clear gb5 gl5 HG5
     have HMgo5 := Aside0.mk (show (P0_ go5 ∨ w.heap.size ≤ go5) from (HO_0.out.1 _ rfl))
     obtain ⟨hx5_0, hf5_0⟩ := Kd.R_celln 0 HO_0.out (x5_1 : Int) p5 q5
     replace p5 := eq_true p5
     replace q5 := eq_true q5
     have HP7 := Kd.R_putg HO_0.out (x5_1 : Int) x1_1
     go_wp2_with (first | ((with_reducible refine gate_store (t := 2) (p := 15) rfl ?_); refine store_event (t := 2) (p := 15) (v := ?vo_w8) (w1 := (wr.setCell ⟨go5, (x5_1 : Int).toNat, none⟩ (.int .i64 x1_1))) ?hg ?ho ?hn ?hr ?_; (case ho => rfl); (case hg => rfl); (case hn => rfl); (case hr => first | (go_simp; done) | (go_simp; rfl)); intro w8 hw; have hg : wr.grownBy w8 (some go5) := (by rw [hw]; exact HP7.2); have hp_ : Kd.R (Kd.int .i64) 2 w8 w0.heap.size (fun k_ => (P0_ k_ ∨ w.heap.size ≤ k_)) (.slice (some ⟨go5, 0, none⟩) x0_1.length co6) y219 := (by rw [hw, Ny219.out]; exact HP7.1); clear HP7; have n0_ := Aside0.mk (hp_); have n1_ := Aside0.mk ((by rw [hw]; exact below_set (HB.out) GB5.out : Below w0.heap.size w0 w8)); have n2_ := Aside0.mk (Kept.of_grown (S := (fun k_ => P0_ k_)) hg (by repeat (first | (with_reducible first | exact HK.out | apply Kept.alloc | apply Kept.drewN | apply Kept.drew) | exact HK.out)) (fun k_ e_ => (HO_0.out.1 k_ e_))); clear HO_0; clear HB; clear HK; have HO_0 := n0_; have HB := n1_; have HK := n2_; clear n0_ n1_ n2_; clear hg hw hp_))
     go_roundg k1
     case measure => have := HK1.out; omega
     case rel => exact ⟨(y219), (wrap64 (x1_1 + 1)), (wrap64 (x5_1 + 1)), (by first | rfl | (simp; done) | (simp [*]; done)), (by first | rfl | (simp; done) | (simp [*]; done)), H', ⟨by have := HK1.out; omega⟩, ⟨by (with_reducible repeat (first | apply Kd.R_alloc | apply Kd.R_drewN | apply Kd.R_drew)); exact HO_0.out⟩, ⟨by repeat (first | (with_reducible first | exact HK.out | apply Kept.alloc | apply Kept.drewN | apply Kept.drew) | exact HK.out)⟩, ⟨by repeat (first | (with_reducible first | exact HB.out | apply below_alloc | apply pw_below_drewN | apply below_drew1) | exact HB.out)⟩⟩
    ·rw [if_neg c4] at H
     exact absurd H (by simp)
   ·rw [if_neg c3] at H
    have c3b0 : decide (x5_1 < (x0_1.length : Int)) = false := decide_eq_false c3
    clear c3
    simp only [Option.some.injEq, Prod.mk.injEq] at H
    obtain ⟨rfl, rfl⟩ := H
    obtain ⟨Ao9, co9, eo9⟩ := Kd.R_slice HO_0.out
    subst eo9
    go_wp2
    go_ret
    exact ⟨by first | rfl | (simp [errW_none, errW_some] <;> rfl) | (simp [*, errW_none, errW_some] <;> rfl), by (with_reducible repeat (first | apply Kd.R_alloc | apply Kd.R_drewN | apply Kd.R_drew)); exact HO_0.out, by repeat (first | (with_reducible first | exact HB.out | apply below_alloc | apply pw_below_drewN | apply below_drew1) | exact HB.out), by repeat (first | (with_reducible first | exact HK.out | apply Kept.alloc | apply Kept.drewN | apply Kept.drew) | exact HK.out)⟩

/-! ### laws_heldInt64S: function 48 -/
def laws_heldInt64S.l0 : Nat → List Int → Int → Int → Option (Int)
 | 0, _, _, _ => none
 | k + 1, x0, x1, x5 => if x5 < (x0.length : Int) then (if 0 ≤ x5 then (if (rd x0 x5) = x1 then (laws_heldInt64S.l0 k x0 (wrap64 (x1 + 1)) (wrap64 (x5 + 1))) else (some (-1))) else (none)) else (some x1)
def laws_heldInt64S.f (k : Nat) (l0 : List Int) (a1 : Int) : Option (Int) := laws_heldInt64S.l0 k l0 a1 0
theorem laws_heldInt64S.mono_l : ∀ k, (∀ y0 y1 y2, LeO (laws_heldInt64S.l0 k y0 y1 y2) (laws_heldInt64S.l0 (k + 1) y0 y1 y2))
 | 0 => fun _ _ _ r h => by simp [laws_heldInt64S.l0] at h
 | k + 1 => by
  have ih0 := laws_heldInt64S.mono_l k
  ·intro y0 y1 y2
   unfold laws_heldInt64S.l0
   repeat' first
   | (with_reducible exact ih0 _ _ _)
   | (with_reducible exact LeO.refl _)
   | (with_reducible exact LeO.none _)
   | (with_reducible refine LeO.ite ?_ ?_)
   | (with_reducible refine LeO.bind ?_ (fun _ => ?_))
   | exact ih0 _ _ _
   | exact LeO.none _
   | refine LeO.ite ?_ ?_
   | refine LeO.bind ?_ (fun _ => ?_)
theorem laws_heldInt64S.mono : ∀ a0 a1 k, LeO (laws_heldInt64S.f k a0 a1) (laws_heldInt64S.f (k + 1) a0 a1) := by
 intro a0 a1 k
 have ih0 := laws_heldInt64S.mono_l k
 unfold laws_heldInt64S.f
 repeat' first
   | (with_reducible exact ih0 _ _ _)
   | (with_reducible exact LeO.refl _)
   | (with_reducible exact LeO.none _)
   | (with_reducible refine LeO.ite ?_ ?_)
   | (with_reducible refine LeO.bind ?_ (fun _ => ?_))
   | exact ih0 _ _ _
   | exact LeO.none _
   | refine LeO.ite ?_ ?_
   | refine LeO.bind ?_ (fun _ => ?_)
set_option maxHeartbeats 8000000 in
set_option maxRecDepth 100000 in
theorem laws_heldInt64S.calls (k : Nat) (A0 : Option Addr) (c0 : Nat) (l0 : List Int) (a1 : Int) (r : Int) (w : World) (hr0 : Kd.C (Kd.int .i64) w A0 l0.length l0) (hc0 : l0.length ≤ c0) (h : laws_heldInt64S.f k l0 a1 = some r) :
  Calls Try.prog 48 #[.slice A0 l0.length c0, .int .i64 a1] w fun e w' => e = .returned (.int .i64 r) ∧ Drawn0 w w' := by
 have HR0 := Aside0.mk hr0
 have HC0 := Aside0.mk hc0
 clear hr0 hc0
 have H : (laws_heldInt64S.l0 k l0 a1 0) = some r := h
 clear h
 have H' := Aside0.mk H
 clear H
 go_enter Try.func48, Try.ntmps48
 go_wp2
 go_loopg [1, 5] k (fun kq v1 v5 w' => ∃ (x1_1 : Int) (x5_1 : Int), v1 = .int .i64 x1_1 ∧ v5 = .int .i64 x5_1 ∧ Aside0 (laws_heldInt64S.l0 kq l0 x1_1 x5_1 = some r) ∧ Aside0 (kq ≤ k) ∧ Drawn0 w w')
 case atStart => exact ⟨(a1), (0), (by first | rfl | (simp; done) | (simp [*]; done)), (by first | rfl | (simp; done) | (simp [*]; done)), H', ⟨Nat.le_refl _⟩, by repeat (first | exact Drawn0.refl _ | apply Drawn0.step)⟩
 case round =>
  clear H'
  try clear p2
  obtain ⟨x1_1, x5_1, rfl, rfl, HA, HK1, ⟨m1, rfl⟩⟩ := hrel
  cases gk with
  | zero => exact absurd HA.out (by simp [laws_heldInt64S.l0])
  | succ k1 =>
   have H := HA.out
   clear HA
   simp only [laws_heldInt64S.l0] at H
   by_cases c3 : x5_1 < (l0.length : Int)
   ·rw [if_pos c3] at H
    have c3b0 : decide (x5_1 < (l0.length : Int)) = true := decide_eq_true c3
    clear c3
    by_cases c4 : 0 ≤ x5_1
    ·rw [if_pos c4] at H
     have c4b0 : decide (0 ≤ x5_1) = true := decide_eq_true c4
     clear c4
     by_cases c5 : (rd l0 x5_1) = x1_1
     ·rw [if_pos c5] at H
      have c5b0 : ((rd l0 x5_1) == x1_1) = true := beq_iff_eq.mpr c5
      have c5b1 : ((rd l0 x5_1) != x1_1) = false := bne_eq_false_iff_eq.mpr c5
      clear c5
      have H' := Aside0.mk H
      clear H
      have p220 : 0 ≤ (x5_1 : Int) := of_decide_eq_true (by first | (with_reducible assumption) | assumption)
      have q220 : x5_1 < (l0.length : Int) := of_decide_eq_true (by first | (with_reducible assumption) | assumption)
      obtain ⟨ad220, e220, hx220_0⟩ := Kd.at_int HR0.out x5_1 p220 q220
      cases e220
      replace p220 := eq_true p220
      replace q220 := eq_true q220
      go_wp2
      go_roundg k1
      case measure => have := HK1.out; omega
      case rel => exact ⟨(wrap64 (x1_1 + 1)), (wrap64 (x5_1 + 1)), (by first | rfl | (simp; done) | (simp [*]; done)), (by first | rfl | (simp; done) | (simp [*]; done)), H', ⟨by have := HK1.out; omega⟩, by repeat (first | exact Drawn0.refl _ | apply Drawn0.step)⟩
     ·rw [if_neg c5] at H
      have c5b0 : ((rd l0 x5_1) == x1_1) = false := beq_eq_false_iff_ne.mpr c5
      have c5b1 : ((rd l0 x5_1) != x1_1) = true := bne_iff_ne.mpr c5
      obtain rfl := Option.some.inj H
      have p220 : 0 ≤ (x5_1 : Int) := of_decide_eq_true (by first | (with_reducible assumption) | assumption)
      have q220 : x5_1 < (l0.length : Int) := of_decide_eq_true (by first | (with_reducible assumption) | assumption)
      obtain ⟨ad220, e220, hx220_0⟩ := Kd.at_int HR0.out x5_1 p220 q220
      cases e220
      replace p220 := eq_true p220
      replace q220 := eq_true q220
      go_wp2
      go_ret
      exact ⟨by first | rfl | (simp; done) | (simp [*]; done), by repeat (first | exact Drawn0.refl _ | apply Drawn0.step)⟩
    ·rw [if_neg c4] at H
     exact absurd H (by simp)
   ·rw [if_neg c3] at H
    have c3b0 : decide (x5_1 < (l0.length : Int)) = false := decide_eq_false c3
    clear c3
    obtain rfl := Option.some.inj H
    go_wp2
    go_ret
    exact ⟨by first | rfl | (simp; done) | (simp [*]; done), by repeat (first | exact Drawn0.refl _ | apply Drawn0.step)⟩

/-! ### laws_FnExactVerify: function 10 -/
/-! ### FnExactVerify, whole -/
theorem drawn_below {w w' : World} (h : Drawn0 w w') : Below w.heap.size w w' := by
 obtain ⟨n, rfl⟩ := h.out
 exact pw_below_drewN (Below.refl _ _) n
def Stg (_ : Nat) : Prop := True
theorem stage_a {W wc wk : World} {A : Option Addr} {g : List Int} {α : Type} {d : Kd α} {e : Nat} {v : Value} {t : List α} (hW : W.heap.size ≤ wc.heap.size) (hC : (Kd.int .i64).C wc A g.length g) (hS : d.R e wk wc.heap.size (fun _ => True) v t) (hb : Below wc.heap.size wc wk) :
  ∃ N1, (W.heap.size ≤ N1 ∧ N1 ≤ wk.heap.size) ∧ Kd.F (Kd.int .i64) wk (fun j => j < N1) A g.length g ∧ d.R e wk W.heap.size (fun j => N1 ≤ j) v t :=
 ⟨wc.heap.size, ⟨hW, hb.size⟩, Kd.F_below (Kd.C_F (Kd.heap_int .i64) hC) hb, Kd.R_mono (Kd.R_lower (Kd.R_bound hS) hW) (fun _ hj => hj.2.1)⟩
theorem stage_b {W wc wk : World} {N : Nat} {α : Type} {d : Kd α} {e : Nat} {v : Value} {g : List α} (hW : W.heap.size ≤ wc.heap.size) (hN : N ≤ wc.heap.size) (hR : d.R e wk wc.heap.size (fun _ => True) v g) : d.R e wk W.heap.size (fun j => N ≤ j) v g :=
 Kd.R_mono (Kd.R_lower (Kd.R_bound hR) hW) (fun _ hj => Nat.le_trans hN hj.2.1)
theorem stage_c {wc wk : World} {N1 N4 B : Nat} {α : Type} {d : Kd α} {e : Nat} {v : Value} {g : List α} (hX : d.R e wc B (fun j => N1 ≤ j) v g) (hb : Below wc.heap.size wc wk) (hN : N4 = wc.heap.size) : d.R e wk B (fun j => N1 ≤ j ∧ j < N4) v g :=
 Kd.R_below (Kd.R_mono (Kd.R_bound hX) (fun _ hj => ⟨hj.1, by rw [hN]; exact hj.2.2.1⟩)) hb
theorem size_of {wc wk : World} (_h : Below wc.heap.size wc wk) : ∃ N, N = wc.heap.size := ⟨_, rfl⟩
theorem heldN (k : Nat) (A : Option Addr) (n c : Nat) (l : List Int) (a1 r : Int) (w : World) (hn : n = l.length) (hr : Kd.C (Kd.int .i64) w A l.length l) (hc : n ≤ c) (h : laws_heldInt64S.f k l a1 = some r) :
  Calls Try.prog 48 #[.slice A n c, .int .i64 a1] w fun e w' => e = .returned (.int .i64 r) ∧ Drawn0 w w' := by
 subst hn
 exact laws_heldInt64S.calls k A c l a1 r w hr hc h
/-- What the law's parts come to where it is not out of bounds. -/
def Fine (k : Nat) (l0 : List S77) (l1 : List ByteArray) (l2 : List (List Int)) : Prop := ∃ t0 t1 t2 g m g2, laws_toAssetS.f k l0 = some t0 ∧ laws_toStringS.f k l1 = some t1 ∧ laws_toByteSS.f k l2 = some t2 ∧ spec_Verify.f k t0 t1 t2 = some g ∧ impl_Verify.f k t0 t1 t2 = some g ∧
 laws_eqInt64S.f k g g = some true ∧ laws_eqAssetS.f k t0 t0 = some true ∧ laws_eqStringS.f k t1 t1 = some true ∧ laws_eqByteSS.f k t2 t2 = some true ∧ t0.length ≤ 1048576 ∧ t1.length ≤ 1048576 ∧ t2.length ≤ 1048576 ∧ (∀ x ∈ t2, x.length ≤ 1048576) ∧
 laws_markInt64S.f k g 1 = some (m, g2) ∧ laws_heldInt64S.f k g2 1 = some m ∧ 0 ≤ m ∧ ∀ a : Int, 0 ≤ a → a ≤ 9000000000000 → ∃ s, laws_markText.f k a = some s
open Classical in
noncomputable def laws_FnExactVerify.f (k : Nat) (l0 : List S77) (l1 : List ByteArray) (l2 : List (List Int)) : Option Bool := (laws_szAssetS.f k l0 1048576).bind fun s => if s < 0 then some true else (laws_szStringS.f k l1 s).bind fun s => if s < 0 then some true else (laws_szByteSS.f k l2 s).bind fun s => if s < 0 then some true else if Fine k l0 l1 l2 then some true else none
set_option maxHeartbeats 8000000 in
set_option maxRecDepth 100000 in
theorem laws_FnExactVerify.calls (k : Nat) (A0 : Option Addr) (c0 : Nat) (l0 : List (S77)) (A1 : Option Addr) (c1 : Nat) (l1 : List ByteArray) (A2 : Option Addr) (c2 : Nat) (l2 : List (List Int)) (r : Bool) (w : World) (hr0 : Kd.C k77 w A0 l0.length l0) (hc0 : l0.length ≤ c0) (hr1 : Kd.C Kd.string w A1 l1.length l1) (hc1 : l1.length ≤ c1) (hr2 : Kd.C (Kd.slice 5 (Kd.int .u8)) w A2 l2.length l2) (hc2 : l2.length ≤ c2) (h : laws_FnExactVerify.f k l0 l1 l2 = some r) :
  Calls Try.prog 10 #[.slice A0 l0.length c0, .slice A1 l1.length c1, .slice A2 l2.length c2] w fun e w' => e = .returned (.bool r) ∧ Below w.heap.size w w' := by
 have HR0 := Aside0.mk hr0
 have HC0 := Aside0.mk hc0
 have HR1 := Aside0.mk hr1
 have HC1 := Aside0.mk hc1
 have HR2 := Aside0.mk hr2
 have HC2 := Aside0.mk hc2
 have HB := Aside0.mk (Below.refl w.heap.size w)
 have HSTG : Aside0 (Stg 0) := ⟨trivial⟩
 clear hr0 hc0 hr1 hc1 hr2 hc2
 unfold laws_FnExactVerify.f at h
 cases hs : laws_szAssetS.f k l0 1048576 with
 | none => rw [hs] at h; cases h
 | some s0 =>
  rw [hs] at h
  simp only [Option.bind_some] at h
  have HS0 := Aside0.mk hs
  clear hs
  by_cases hneg : s0 < 0
  ·rw [if_pos hneg] at h
   obtain rfl := Option.some.inj h
   have d0 : decide (s0 < 0) = true := decide_eq_true hneg
   clear h hneg
   go_enter Try.func10, Try.ntmps10
   go_wp2_with (first | (go_at_call 24; (with_reducible have t_ : Aside0 (Stg 0) := HSTG); clear t_; (with_reducible refine (laws_szAssetS.calls k A0 c0 l0 1048576 s0 _ ?z0 HC0.out HS0.out).mono ?_); (case z0 => exact Kd.C_below HR0.out (by repeat (first | (with_reducible first | exact HB.out | apply below_alloc | apply pw_below_drewN | apply below_drew1) | exact HB.out))); rintro e wk_ ⟨rfl, hb_⟩; have n1_ := Aside0.mk (below_step (by repeat (first | (with_reducible first | exact HB.out | apply below_alloc | apply pw_below_drewN | apply below_drew1) | exact HB.out)) hb_); clear HB; have HB := n1_; clear n1_; clear hb_; clear HSTG; have HSTG : Aside0 (Stg 1) := ⟨trivial⟩))
   go_ret
   exact ⟨rfl, (by repeat (first | (with_reducible first | exact HB.out | apply below_alloc | apply pw_below_drewN | apply below_drew1) | exact HB.out))⟩
  ·rw [if_neg hneg] at h
   have d0 : decide (s0 < 0) = false := decide_eq_false hneg
   clear hneg
   cases hs : laws_szStringS.f k l1 s0 with
   | none => rw [hs] at h; cases h
   | some s1 =>
    rw [hs] at h
    simp only [Option.bind_some] at h
    have HS1 := Aside0.mk hs
    clear hs
    by_cases hneg : s1 < 0
    ·rw [if_pos hneg] at h
     obtain rfl := Option.some.inj h
     have d1 : decide (s1 < 0) = true := decide_eq_true hneg
     clear h hneg
     go_enter Try.func10, Try.ntmps10
     go_wp2_with (first | (go_at_call 24; (with_reducible have t_ : Aside0 (Stg 0) := HSTG); clear t_; (with_reducible refine (laws_szAssetS.calls k A0 c0 l0 1048576 s0 _ ?z0 HC0.out HS0.out).mono ?_); (case z0 => exact Kd.C_below HR0.out (by repeat (first | (with_reducible first | exact HB.out | apply below_alloc | apply pw_below_drewN | apply below_drew1) | exact HB.out))); rintro e wk_ ⟨rfl, hb_⟩; have n1_ := Aside0.mk (below_step (by repeat (first | (with_reducible first | exact HB.out | apply below_alloc | apply pw_below_drewN | apply below_drew1) | exact HB.out)) hb_); clear HB; have HB := n1_; clear n1_; clear hb_; clear HSTG; have HSTG : Aside0 (Stg 1) := ⟨trivial⟩) | (go_at_call 38; (with_reducible have t_ : Aside0 (Stg 1) := HSTG); clear t_; (with_reducible refine (laws_szStringS.calls k A1 c1 l1 s0 s1 _ ?z1 HC1.out HS1.out).mono ?_); (case z1 => exact Kd.C_below HR1.out (by repeat (first | (with_reducible first | exact HB.out | apply below_alloc | apply pw_below_drewN | apply below_drew1) | exact HB.out))); rintro e wk_ ⟨rfl, hd_⟩; have hb_ := drawn_below hd_; clear hd_; have n1_ := Aside0.mk (below_step (by repeat (first | (with_reducible first | exact HB.out | apply below_alloc | apply pw_below_drewN | apply below_drew1) | exact HB.out)) hb_); clear HB; have HB := n1_; clear n1_; clear hb_; clear HSTG; have HSTG : Aside0 (Stg 2) := ⟨trivial⟩))
     go_ret
     exact ⟨rfl, (by repeat (first | (with_reducible first | exact HB.out | apply below_alloc | apply pw_below_drewN | apply below_drew1) | exact HB.out))⟩
    ·rw [if_neg hneg] at h
     have d1 : decide (s1 < 0) = false := decide_eq_false hneg
     clear hneg
     cases hs : laws_szByteSS.f k l2 s1 with
     | none => rw [hs] at h; cases h
     | some s2 =>
      rw [hs] at h
      simp only [Option.bind_some] at h
      have HS2 := Aside0.mk hs
      clear hs
      by_cases hneg : s2 < 0
      ·rw [if_pos hneg] at h
       obtain rfl := Option.some.inj h
       have d2 : decide (s2 < 0) = true := decide_eq_true hneg
       clear h hneg
       go_enter Try.func10, Try.ntmps10
       go_wp2_with (first | (go_at_call 24; (with_reducible have t_ : Aside0 (Stg 0) := HSTG); clear t_; (with_reducible refine (laws_szAssetS.calls k A0 c0 l0 1048576 s0 _ ?z0 HC0.out HS0.out).mono ?_); (case z0 => exact Kd.C_below HR0.out (by repeat (first | (with_reducible first | exact HB.out | apply below_alloc | apply pw_below_drewN | apply below_drew1) | exact HB.out))); rintro e wk_ ⟨rfl, hb_⟩; have n1_ := Aside0.mk (below_step (by repeat (first | (with_reducible first | exact HB.out | apply below_alloc | apply pw_below_drewN | apply below_drew1) | exact HB.out)) hb_); clear HB; have HB := n1_; clear n1_; clear hb_; clear HSTG; have HSTG : Aside0 (Stg 1) := ⟨trivial⟩) | (go_at_call 38; (with_reducible have t_ : Aside0 (Stg 1) := HSTG); clear t_; (with_reducible refine (laws_szStringS.calls k A1 c1 l1 s0 s1 _ ?z1 HC1.out HS1.out).mono ?_); (case z1 => exact Kd.C_below HR1.out (by repeat (first | (with_reducible first | exact HB.out | apply below_alloc | apply pw_below_drewN | apply below_drew1) | exact HB.out))); rintro e wk_ ⟨rfl, hd_⟩; have hb_ := drawn_below hd_; clear hd_; have n1_ := Aside0.mk (below_step (by repeat (first | (with_reducible first | exact HB.out | apply below_alloc | apply pw_below_drewN | apply below_drew1) | exact HB.out)) hb_); clear HB; have HB := n1_; clear n1_; clear hb_; clear HSTG; have HSTG : Aside0 (Stg 2) := ⟨trivial⟩) | (go_at_call 39; (with_reducible have t_ : Aside0 (Stg 2) := HSTG); clear t_; (with_reducible refine (laws_szByteSS.calls k A2 c2 l2 s1 s2 _ ?z2 HC2.out HS2.out).mono ?_); (case z2 => exact Kd.C_below HR2.out (by repeat (first | (with_reducible first | exact HB.out | apply below_alloc | apply pw_below_drewN | apply below_drew1) | exact HB.out))); rintro e wk_ ⟨rfl, hd_⟩; have hb_ := drawn_below hd_; clear hd_; have n1_ := Aside0.mk (below_step (by repeat (first | (with_reducible first | exact HB.out | apply below_alloc | apply pw_below_drewN | apply below_drew1) | exact HB.out)) hb_); clear HB; have HB := n1_; clear n1_; clear hb_; clear HSTG; have HSTG : Aside0 (Stg 3) := ⟨trivial⟩))
       go_ret
       exact ⟨rfl, (by repeat (first | (with_reducible first | exact HB.out | apply below_alloc | apply pw_below_drewN | apply below_drew1) | exact HB.out))⟩
      ·rw [if_neg hneg] at h
       have d2 : decide (s2 < 0) = false := decide_eq_false hneg
       clear hneg
       by_cases hf : Fine k l0 l1 l2
       ·rw [if_pos hf] at h
        obtain rfl := Option.some.inj h
        clear h
        obtain ⟨t0, t1, t2, g, m, g2, ht0, ht1, ht2, hsp, him, heq, he0, he1, he2, hl0, hl1, hl2, hl3, hmk, hhd, hm0, htx⟩ := hf
        have HT0 := Aside0.mk ht0
        have HT1 := Aside0.mk ht1
        have HT2 := Aside0.mk ht2
        have HSP := Aside0.mk hsp
        have HIM := Aside0.mk him
        have HEQ := Aside0.mk heq
        have HE0 := Aside0.mk he0
        have HE1 := Aside0.mk he1
        have HE2 := Aside0.mk he2
        have HLT0 := Aside0.mk hl0
        have HLT1 := Aside0.mk hl1
        have HLT2 := Aside0.mk hl2
        have HLX3 := Aside0.mk hl3
        have HMK := Aside0.mk hmk
        have HHD := Aside0.mk hhd
        have HTX := Aside0.mk htx
        have dm : decide (m < 0) = false := decide_eq_false (by omega)
        clear ht0 ht1 ht2 hsp him heq he0 he1 he2 hl0 hl1 hl2 hl3 hmk hhd hm0 htx
        go_enter Try.func10, Try.ntmps10
        go_wp2_with (first | (go_at_call 24; (with_reducible have t_ : Aside0 (Stg 0) := HSTG); clear t_; (with_reducible refine (laws_szAssetS.calls k A0 c0 l0 1048576 s0 _ ?z0 HC0.out HS0.out).mono ?_); (case z0 => exact Kd.C_below HR0.out (by repeat (first | (with_reducible first | exact HB.out | apply below_alloc | apply pw_below_drewN | apply below_drew1) | exact HB.out))); rintro e wk_ ⟨rfl, hb_⟩; have n1_ := Aside0.mk (below_step (by repeat (first | (with_reducible first | exact HB.out | apply below_alloc | apply pw_below_drewN | apply below_drew1) | exact HB.out)) hb_); clear HB; have HB := n1_; clear n1_; clear hb_; clear HSTG; have HSTG : Aside0 (Stg 1) := ⟨trivial⟩) | (go_at_call 38; (with_reducible have t_ : Aside0 (Stg 1) := HSTG); clear t_; (with_reducible refine (laws_szStringS.calls k A1 c1 l1 s0 s1 _ ?z1 HC1.out HS1.out).mono ?_); (case z1 => exact Kd.C_below HR1.out (by repeat (first | (with_reducible first | exact HB.out | apply below_alloc | apply pw_below_drewN | apply below_drew1) | exact HB.out))); rintro e wk_ ⟨rfl, hd_⟩; have hb_ := drawn_below hd_; clear hd_; have n1_ := Aside0.mk (below_step (by repeat (first | (with_reducible first | exact HB.out | apply below_alloc | apply pw_below_drewN | apply below_drew1) | exact HB.out)) hb_); clear HB; have HB := n1_; clear n1_; clear hb_; clear HSTG; have HSTG : Aside0 (Stg 2) := ⟨trivial⟩) | (go_at_call 39; (with_reducible have t_ : Aside0 (Stg 2) := HSTG); clear t_; (with_reducible refine (laws_szByteSS.calls k A2 c2 l2 s1 s2 _ ?z2 HC2.out HS2.out).mono ?_); (case z2 => exact Kd.C_below HR2.out (by repeat (first | (with_reducible first | exact HB.out | apply below_alloc | apply pw_below_drewN | apply below_drew1) | exact HB.out))); rintro e wk_ ⟨rfl, hd_⟩; have hb_ := drawn_below hd_; clear hd_; have n1_ := Aside0.mk (below_step (by repeat (first | (with_reducible first | exact HB.out | apply below_alloc | apply pw_below_drewN | apply below_drew1) | exact HB.out)) hb_); clear HB; have HB := n1_; clear n1_; clear hb_; clear HSTG; have HSTG : Aside0 (Stg 3) := ⟨trivial⟩) | (go_at_call 26; (with_reducible have t_ : Aside0 (Stg 3) := HSTG); clear t_; (with_reducible refine (laws_toAssetS.calls k A0 c0 l0 t0 _ ?to3 HC0.out HT0.out).mono ?_); (case to3 => exact Kd.C_below HR0.out (by repeat (first | (with_reducible first | exact HB.out | apply below_alloc | apply pw_below_drewN | apply below_drew1) | exact HB.out))); rintro e wk_ ⟨v_, rfl, hs_, hb_⟩; obtain ⟨Ap0, cp0, rfl, hc_, hC_⟩ := Kd.R_reads (hs_); have Hp0 := Aside0.mk hC_; have Lp0 := Aside0.mk hc_; clear hc_ hC_ hs_; have n1_ := Aside0.mk (below_step (by repeat (first | (with_reducible first | exact HB.out | apply below_alloc | apply pw_below_drewN | apply below_drew1) | exact HB.out)) hb_); clear HB; have HB := n1_; clear n1_; clear hb_; clear HSTG; have HSTG : Aside0 (Stg 4) := ⟨trivial⟩) | (go_at_call 41; (with_reducible have t_ : Aside0 (Stg 4) := HSTG); clear t_; (with_reducible refine (laws_toStringS.calls k A1 c1 l1 t1 _ ?to4 HC1.out HT1.out).mono ?_); (case to4 => exact Kd.C_below HR1.out (by repeat (first | (with_reducible first | exact HB.out | apply below_alloc | apply pw_below_drewN | apply below_drew1) | exact HB.out))); rintro e wk_ ⟨v_, rfl, hs_, hb_⟩; obtain ⟨Ap1, cp1, rfl, hc_, hC_⟩ := Kd.R_reads (hs_); have Hp1 := Aside0.mk hC_; have Lp1 := Aside0.mk hc_; clear hc_ hC_ hs_; have n1_ := Aside0.mk (below_step (by repeat (first | (with_reducible first | exact HB.out | apply below_alloc | apply pw_below_drewN | apply below_drew1) | exact HB.out)) hb_); clear HB; have HB := n1_; clear n1_; have n1_ := Aside0.mk (Kd.C_below (Kd.C_below Hp0.out (by repeat (first | exact Below.refl _ _ | apply pw_below_drewN | apply below_drew1))) hb_); clear Hp0; have Hp0 := n1_; clear n1_; clear hb_; clear HSTG; have HSTG : Aside0 (Stg 5) := ⟨trivial⟩) | (go_at_call 42; (with_reducible have t_ : Aside0 (Stg 5) := HSTG); clear t_; (with_reducible refine (laws_toByteSS.calls k A2 c2 l2 t2 _ ?to5 HC2.out HT2.out).mono ?_); (case to5 => exact Kd.C_below HR2.out (by repeat (first | (with_reducible first | exact HB.out | apply below_alloc | apply pw_below_drewN | apply below_drew1) | exact HB.out))); rintro e wk_ ⟨v_, rfl, hs_, hb_⟩; obtain ⟨Ap2, cp2, rfl, hc_, hC_⟩ := Kd.R_reads (Kd.S_R hs_); have Hp2 := Aside0.mk hC_; have Lp2 := Aside0.mk hc_; clear hc_ hC_ hs_; have n1_ := Aside0.mk (below_step (by repeat (first | (with_reducible first | exact HB.out | apply below_alloc | apply pw_below_drewN | apply below_drew1) | exact HB.out)) hb_); clear HB; have HB := n1_; clear n1_; have n1_ := Aside0.mk (Kd.C_below (Kd.C_below Hp0.out (by repeat (first | exact Below.refl _ _ | apply pw_below_drewN | apply below_drew1))) hb_); clear Hp0; have Hp0 := n1_; clear n1_; have n1_ := Aside0.mk (Kd.C_below (Kd.C_below Hp1.out (by repeat (first | exact Below.refl _ _ | apply pw_below_drewN | apply below_drew1))) hb_); clear Hp1; have Hp1 := n1_; clear n1_; clear hb_; clear HSTG; have HSTG : Aside0 (Stg 6) := ⟨trivial⟩) | (go_at_call 40; (with_reducible have t_ : Aside0 (Stg 6) := HSTG); clear t_; (with_reducible refine (spec_Verify.calls k Ap0 cp0 t0 Ap1 cp1 t1 Ap2 cp2 t2 g _ ?v06 Lp0.out ?v16 Lp1.out ?v26 Lp2.out HSP.out).mono ?_); (case v06 => exact Kd.C_below Hp0.out (by repeat (first | exact Below.refl _ _ | apply pw_below_drewN | apply below_drew1))); (case v16 => exact Kd.C_below Hp1.out (by repeat (first | exact Below.refl _ _ | apply pw_below_drewN | apply below_drew1))); (case v26 => exact Kd.C_below Hp2.out (by repeat (first | exact Below.refl _ _ | apply pw_below_drewN | apply below_drew1))); rintro e wk_ ⟨v_, rfl, hw_, hb_⟩; obtain ⟨AW, cW, rfl, hc_, hC_⟩ := Kd.R_reads hw_; have HCW := Aside0.mk hC_; have HLW := Aside0.mk hc_; clear hc_ hC_ hw_; have n1_ := Aside0.mk (below_step (by repeat (first | (with_reducible first | exact HB.out | apply below_alloc | apply pw_below_drewN | apply below_drew1) | exact HB.out)) hb_); clear HB; have HB := n1_; clear n1_; clear hb_; clear HSTG; have HSTG : Aside0 (Stg 7) := ⟨trivial⟩) | (go_at_call 26; (with_reducible have t_ : Aside0 (Stg 7) := HSTG); clear t_; (with_reducible refine (laws_toAssetS.calls k A0 c0 l0 t0 _ ?to7 HC0.out HT0.out).mono ?_); (case to7 => exact Kd.C_below HR0.out (by repeat (first | (with_reducible first | exact HB.out | apply below_alloc | apply pw_below_drewN | apply below_drew1) | exact HB.out))); rintro e wk_ ⟨v_, rfl, hs_, hb_⟩; obtain ⟨N1, hN0, hF, hX⟩ := stage_a (W := w) (Below.size (by repeat (first | (with_reducible first | exact HB.out | apply below_alloc | apply pw_below_drewN | apply below_drew1) | exact HB.out))) (Kd.C_below HCW.out (by repeat (first | exact Below.refl _ _ | apply pw_below_drewN | apply below_drew1))) (Kd.R_lower hs_ (Nat.le_refl _)) hb_; obtain ⟨AX0, cX0, rfl, hc_, _⟩ := Kd.R_reads hX; have HX0 := Aside0.mk hX; have HLX0 := Aside0.mk hc_; have HWF := Aside0.mk hF; have HN0 := Aside0.mk hN0.1; have HN1 := Aside0.mk hN0.2; clear hN0 hF hX hc_ HCW hs_; have n1_ := Aside0.mk (below_step (by repeat (first | (with_reducible first | exact HB.out | apply below_alloc | apply pw_below_drewN | apply below_drew1) | exact HB.out)) hb_); clear HB; have HB := n1_; clear n1_ hb_; clear HSTG; have HSTG : Aside0 (Stg 8) := ⟨trivial⟩) | (go_at_call 41; (with_reducible have t_ : Aside0 (Stg 8) := HSTG); clear t_; (with_reducible refine (laws_toStringS.calls k A1 c1 l1 t1 _ ?to8 HC1.out HT1.out).mono ?_); (case to8 => exact Kd.C_below HR1.out (by repeat (first | (with_reducible first | exact HB.out | apply below_alloc | apply pw_below_drewN | apply below_drew1) | exact HB.out))); rintro e wk_ ⟨v_, rfl, hs_, hb_⟩; have hX := stage_b (W := w) (Below.size (by repeat (first | (with_reducible first | exact HB.out | apply below_alloc | apply pw_below_drewN | apply below_drew1) | exact HB.out))) (Nat.le_trans HN1.out (Below.size (B := 0) (by repeat (first | exact Below.refl _ _ | apply pw_below_drewN | apply below_drew1)))) (hs_); obtain ⟨AX1, cX1, rfl, hc_, _⟩ := Kd.R_reads hX; have HX1 := Aside0.mk hX; have HLX1 := Aside0.mk hc_; have hn_ := Aside0.mk (Nat.le_trans HN1.out (Nat.le_trans (Below.size (B := 0) (by repeat (first | exact Below.refl _ _ | apply pw_below_drewN | apply below_drew1))) hb_.size)); clear HN1; have HN1 := hn_; clear hX hc_ hs_ hn_; have n1_ := Aside0.mk (below_step (by repeat (first | (with_reducible first | exact HB.out | apply below_alloc | apply pw_below_drewN | apply below_drew1) | exact HB.out)) hb_); clear HB; have HB := n1_; clear n1_; have n1_ := Aside0.mk (Kd.F_below (Kd.F_below HWF.out (by repeat (first | exact Below.refl _ _ | apply pw_below_drewN | apply below_drew1))) hb_); clear HWF; have HWF := n1_; clear n1_; have n1_ := Aside0.mk (Kd.R_below (Kd.R_below HX0.out (by repeat (first | exact Below.refl _ _ | apply pw_below_drewN | apply below_drew1))) hb_); clear HX0; have HX0 := n1_; clear n1_; clear hb_; clear HSTG; have HSTG : Aside0 (Stg 9) := ⟨trivial⟩) | (go_at_call 42; (with_reducible have t_ : Aside0 (Stg 9) := HSTG); clear t_; (with_reducible refine (laws_toByteSS.calls k A2 c2 l2 t2 _ ?to9 HC2.out HT2.out).mono ?_); (case to9 => exact Kd.C_below HR2.out (by repeat (first | (with_reducible first | exact HB.out | apply below_alloc | apply pw_below_drewN | apply below_drew1) | exact HB.out))); rintro e wk_ ⟨v_, rfl, hs_, hb_⟩; have hX := stage_b (W := w) (Below.size (by repeat (first | (with_reducible first | exact HB.out | apply below_alloc | apply pw_below_drewN | apply below_drew1) | exact HB.out))) (Nat.le_trans HN1.out (Below.size (B := 0) (by repeat (first | exact Below.refl _ _ | apply pw_below_drewN | apply below_drew1)))) (Kd.S_R hs_); obtain ⟨AX2, cX2, rfl, hc_, _⟩ := Kd.R_reads hX; have HX2 := Aside0.mk hX; have HLX2 := Aside0.mk hc_; have hn_ := Aside0.mk (Nat.le_trans HN1.out (Nat.le_trans (Below.size (B := 0) (by repeat (first | exact Below.refl _ _ | apply pw_below_drewN | apply below_drew1))) hb_.size)); clear HN1; have HN1 := hn_; clear hX hc_ hs_ hn_; have n1_ := Aside0.mk (below_step (by repeat (first | (with_reducible first | exact HB.out | apply below_alloc | apply pw_below_drewN | apply below_drew1) | exact HB.out)) hb_); clear HB; have HB := n1_; clear n1_; have n1_ := Aside0.mk (Kd.F_below (Kd.F_below HWF.out (by repeat (first | exact Below.refl _ _ | apply pw_below_drewN | apply below_drew1))) hb_); clear HWF; have HWF := n1_; clear n1_; have n1_ := Aside0.mk (Kd.R_below (Kd.R_below HX0.out (by repeat (first | exact Below.refl _ _ | apply pw_below_drewN | apply below_drew1))) hb_); clear HX0; have HX0 := n1_; clear n1_; have n1_ := Aside0.mk (Kd.R_below (Kd.R_below HX1.out (by repeat (first | exact Below.refl _ _ | apply pw_below_drewN | apply below_drew1))) hb_); clear HX1; have HX1 := n1_; clear n1_; clear hb_; clear HSTG; have HSTG : Aside0 (Stg 10) := ⟨trivial⟩) | (go_at_call 43; (with_reducible have t_ : Aside0 (Stg 10) := HSTG); clear t_; (with_reducible refine (impl_Verify.calls k AX0 cX0 t0 AX1 cX1 t1 AX2 cX2 t2 g _ ?v010 HLX0.out ?v110 HLX1.out ?v210 HLX2.out HIM.out).mono ?_); (case v010 => exact Kd.C_below (Kd.R_reads' HX0.out).2.2 (by repeat (first | exact Below.refl _ _ | apply pw_below_drewN | apply below_drew1))); (case v110 => exact Kd.C_below (Kd.R_reads' HX1.out).2.2 (by repeat (first | exact Below.refl _ _ | apply pw_below_drewN | apply below_drew1))); (case v210 => exact Kd.C_below (Kd.R_reads' HX2.out).2.2 (by repeat (first | exact Below.refl _ _ | apply pw_below_drewN | apply below_drew1))); rintro e wk_ ⟨v_, rfl, hw_, hb_⟩; obtain ⟨N4, hN4⟩ := size_of hb_; have hG := stage_b (W := w) (Below.size (by repeat (first | (with_reducible first | exact HB.out | apply below_alloc | apply pw_below_drewN | apply below_drew1) | exact HB.out))) (Nat.le_of_eq hN4) hw_; obtain ⟨AG, cG, rfl, hc_, _⟩ := Kd.R_reads hw_; have HG := Aside0.mk hG; have HLG := Aside0.mk hc_; have n_ := Aside0.mk (stage_c (Kd.R_below HX0.out (by repeat (first | exact Below.refl _ _ | apply pw_below_drewN | apply below_drew1))) hb_ hN4); clear HX0; have HX0 := n_; clear n_; have n_ := Aside0.mk (stage_c (Kd.R_below HX1.out (by repeat (first | exact Below.refl _ _ | apply pw_below_drewN | apply below_drew1))) hb_ hN4); clear HX1; have HX1 := n_; clear n_; have n_ := Aside0.mk (stage_c (Kd.R_below HX2.out (by repeat (first | exact Below.refl _ _ | apply pw_below_drewN | apply below_drew1))) hb_ hN4); clear HX2; have HX2 := n_; clear n_; have HN4 := Aside0.mk (Nat.le_trans HN1.out (Nat.le_trans (Below.size (B := 0) (by repeat (first | exact Below.refl _ _ | apply pw_below_drewN | apply below_drew1))) (Nat.le_of_eq hN4.symm))); clear hN4 hG hc_ hw_; have n1_ := Aside0.mk (below_step (by repeat (first | (with_reducible first | exact HB.out | apply below_alloc | apply pw_below_drewN | apply below_drew1) | exact HB.out)) hb_); clear HB; have HB := n1_; clear n1_; have n1_ := Aside0.mk (Kd.F_below (Kd.F_below HWF.out (by repeat (first | exact Below.refl _ _ | apply pw_below_drewN | apply below_drew1))) hb_); clear HWF; have HWF := n1_; clear n1_ hb_; clear HSTG; have HSTG : Aside0 (Stg 11) := ⟨trivial⟩) | (go_at_call 44; (with_reducible have t_ : Aside0 (Stg 11) := HSTG); clear t_; (with_reducible refine (laws_eqInt64S.calls k AG cG g AW cW g true _ ?q011 HLG.out ?q111 HLW.out HEQ.out).mono ?_); (case q011 => exact Kd.C_below (Kd.R_reads' HG.out).2.2 (by repeat (first | exact Below.refl _ _ | apply pw_below_drewN | apply below_drew1))); (case q111 => exact Kd.C_below (Kd.F_now HWF.out) (by repeat (first | exact Below.refl _ _ | apply pw_below_drewN | apply below_drew1))); rintro e wk_ ⟨rfl, hd_⟩; have hb_ := drawn_below hd_; clear hd_; have n1_ := Aside0.mk (below_step (by repeat (first | (with_reducible first | exact HB.out | apply below_alloc | apply pw_below_drewN | apply below_drew1) | exact HB.out)) hb_); clear HB; have HB := n1_; clear n1_; have n1_ := Aside0.mk (Kd.F_below (Kd.F_below HWF.out (by repeat (first | exact Below.refl _ _ | apply pw_below_drewN | apply below_drew1))) hb_); clear HWF; have HWF := n1_; clear n1_; have n1_ := Aside0.mk (Kd.R_below (Kd.R_below HX0.out (by repeat (first | exact Below.refl _ _ | apply pw_below_drewN | apply below_drew1))) hb_); clear HX0; have HX0 := n1_; clear n1_; have n1_ := Aside0.mk (Kd.R_below (Kd.R_below HX1.out (by repeat (first | exact Below.refl _ _ | apply pw_below_drewN | apply below_drew1))) hb_); clear HX1; have HX1 := n1_; clear n1_; have n1_ := Aside0.mk (Kd.R_below (Kd.R_below HX2.out (by repeat (first | exact Below.refl _ _ | apply pw_below_drewN | apply below_drew1))) hb_); clear HX2; have HX2 := n1_; clear n1_; have n1_ := Aside0.mk (Kd.R_below (Kd.R_below HG.out (by repeat (first | exact Below.refl _ _ | apply pw_below_drewN | apply below_drew1))) hb_); clear HG; have HG := n1_; clear n1_; clear hb_; clear HSTG; have HSTG : Aside0 (Stg 12) := ⟨trivial⟩) | (go_at_call 26; (with_reducible have t_ : Aside0 (Stg 12) := HSTG); clear t_; (with_reducible refine (laws_toAssetS.calls k A0 c0 l0 t0 _ ?to12 HC0.out HT0.out).mono ?_); (case to12 => exact Kd.C_below HR0.out (by repeat (first | (with_reducible first | exact HB.out | apply below_alloc | apply pw_below_drewN | apply below_drew1) | exact HB.out))); rintro e wk_ ⟨v_, rfl, hs_, hb_⟩; obtain ⟨Aq0, cq0, rfl, hc_, hC_⟩ := Kd.R_reads (hs_); have Hq0 := Aside0.mk hC_; have Lq0 := Aside0.mk hc_; clear hc_ hC_ hs_; have n1_ := Aside0.mk (below_step (by repeat (first | (with_reducible first | exact HB.out | apply below_alloc | apply pw_below_drewN | apply below_drew1) | exact HB.out)) hb_); clear HB; have HB := n1_; clear n1_; have n1_ := Aside0.mk (Kd.F_below (Kd.F_below HWF.out (by repeat (first | exact Below.refl _ _ | apply pw_below_drewN | apply below_drew1))) hb_); clear HWF; have HWF := n1_; clear n1_; have n1_ := Aside0.mk (Kd.R_below (Kd.R_below HX0.out (by repeat (first | exact Below.refl _ _ | apply pw_below_drewN | apply below_drew1))) hb_); clear HX0; have HX0 := n1_; clear n1_; have n1_ := Aside0.mk (Kd.R_below (Kd.R_below HX1.out (by repeat (first | exact Below.refl _ _ | apply pw_below_drewN | apply below_drew1))) hb_); clear HX1; have HX1 := n1_; clear n1_; have n1_ := Aside0.mk (Kd.R_below (Kd.R_below HX2.out (by repeat (first | exact Below.refl _ _ | apply pw_below_drewN | apply below_drew1))) hb_); clear HX2; have HX2 := n1_; clear n1_; have n1_ := Aside0.mk (Kd.R_below (Kd.R_below HG.out (by repeat (first | exact Below.refl _ _ | apply pw_below_drewN | apply below_drew1))) hb_); clear HG; have HG := n1_; clear n1_; clear hb_; clear HSTG; have HSTG : Aside0 (Stg 13) := ⟨trivial⟩) | (go_at_call 28; (with_reducible have t_ : Aside0 (Stg 13) := HSTG); clear t_; (with_reducible refine (laws_eqAssetS.calls k AX0 cX0 t0 Aq0 cq0 t0 true _ ?q013 HLX0.out ?q113 Lq0.out HE0.out).mono ?_); (case q013 => exact Kd.C_below (Kd.R_reads' HX0.out).2.2 (by repeat (first | exact Below.refl _ _ | apply pw_below_drewN | apply below_drew1))); (case q113 => exact Kd.C_below Hq0.out (by repeat (first | exact Below.refl _ _ | apply pw_below_drewN | apply below_drew1))); rintro e wk_ ⟨rfl, hb_⟩; have n1_ := Aside0.mk (below_step (by repeat (first | (with_reducible first | exact HB.out | apply below_alloc | apply pw_below_drewN | apply below_drew1) | exact HB.out)) hb_); clear HB; have HB := n1_; clear n1_; have n1_ := Aside0.mk (Kd.F_below (Kd.F_below HWF.out (by repeat (first | exact Below.refl _ _ | apply pw_below_drewN | apply below_drew1))) hb_); clear HWF; have HWF := n1_; clear n1_; have n1_ := Aside0.mk (Kd.R_below (Kd.R_below HX0.out (by repeat (first | exact Below.refl _ _ | apply pw_below_drewN | apply below_drew1))) hb_); clear HX0; have HX0 := n1_; clear n1_; have n1_ := Aside0.mk (Kd.R_below (Kd.R_below HX1.out (by repeat (first | exact Below.refl _ _ | apply pw_below_drewN | apply below_drew1))) hb_); clear HX1; have HX1 := n1_; clear n1_; have n1_ := Aside0.mk (Kd.R_below (Kd.R_below HX2.out (by repeat (first | exact Below.refl _ _ | apply pw_below_drewN | apply below_drew1))) hb_); clear HX2; have HX2 := n1_; clear n1_; have n1_ := Aside0.mk (Kd.R_below (Kd.R_below HG.out (by repeat (first | exact Below.refl _ _ | apply pw_below_drewN | apply below_drew1))) hb_); clear HG; have HG := n1_; clear n1_; have n1_ := Aside0.mk (Kd.C_below (Kd.C_below Hq0.out (by repeat (first | exact Below.refl _ _ | apply pw_below_drewN | apply below_drew1))) hb_); clear Hq0; have Hq0 := n1_; clear n1_; clear hb_; clear HSTG; have HSTG : Aside0 (Stg 14) := ⟨trivial⟩) | (go_at_call 41; (with_reducible have t_ : Aside0 (Stg 14) := HSTG); clear t_; (with_reducible refine (laws_toStringS.calls k A1 c1 l1 t1 _ ?to14 HC1.out HT1.out).mono ?_); (case to14 => exact Kd.C_below HR1.out (by repeat (first | (with_reducible first | exact HB.out | apply below_alloc | apply pw_below_drewN | apply below_drew1) | exact HB.out))); rintro e wk_ ⟨v_, rfl, hs_, hb_⟩; obtain ⟨Aq1, cq1, rfl, hc_, hC_⟩ := Kd.R_reads (hs_); have Hq1 := Aside0.mk hC_; have Lq1 := Aside0.mk hc_; clear hc_ hC_ hs_; have n1_ := Aside0.mk (below_step (by repeat (first | (with_reducible first | exact HB.out | apply below_alloc | apply pw_below_drewN | apply below_drew1) | exact HB.out)) hb_); clear HB; have HB := n1_; clear n1_; have n1_ := Aside0.mk (Kd.F_below (Kd.F_below HWF.out (by repeat (first | exact Below.refl _ _ | apply pw_below_drewN | apply below_drew1))) hb_); clear HWF; have HWF := n1_; clear n1_; have n1_ := Aside0.mk (Kd.R_below (Kd.R_below HX0.out (by repeat (first | exact Below.refl _ _ | apply pw_below_drewN | apply below_drew1))) hb_); clear HX0; have HX0 := n1_; clear n1_; have n1_ := Aside0.mk (Kd.R_below (Kd.R_below HX1.out (by repeat (first | exact Below.refl _ _ | apply pw_below_drewN | apply below_drew1))) hb_); clear HX1; have HX1 := n1_; clear n1_; have n1_ := Aside0.mk (Kd.R_below (Kd.R_below HX2.out (by repeat (first | exact Below.refl _ _ | apply pw_below_drewN | apply below_drew1))) hb_); clear HX2; have HX2 := n1_; clear n1_; have n1_ := Aside0.mk (Kd.R_below (Kd.R_below HG.out (by repeat (first | exact Below.refl _ _ | apply pw_below_drewN | apply below_drew1))) hb_); clear HG; have HG := n1_; clear n1_; clear hb_; clear HSTG; have HSTG : Aside0 (Stg 15) := ⟨trivial⟩) | (go_at_call 33; (with_reducible have t_ : Aside0 (Stg 15) := HSTG); clear t_; (with_reducible refine (laws_eqStringS.calls k AX1 cX1 t1 Aq1 cq1 t1 true _ ?q015 HLX1.out ?q115 Lq1.out HE1.out).mono ?_); (case q015 => exact Kd.C_below (Kd.R_reads' HX1.out).2.2 (by repeat (first | exact Below.refl _ _ | apply pw_below_drewN | apply below_drew1))); (case q115 => exact Kd.C_below Hq1.out (by repeat (first | exact Below.refl _ _ | apply pw_below_drewN | apply below_drew1))); rintro e wk_ ⟨rfl, hd_⟩; have hb_ := drawn_below hd_; clear hd_; have n1_ := Aside0.mk (below_step (by repeat (first | (with_reducible first | exact HB.out | apply below_alloc | apply pw_below_drewN | apply below_drew1) | exact HB.out)) hb_); clear HB; have HB := n1_; clear n1_; have n1_ := Aside0.mk (Kd.F_below (Kd.F_below HWF.out (by repeat (first | exact Below.refl _ _ | apply pw_below_drewN | apply below_drew1))) hb_); clear HWF; have HWF := n1_; clear n1_; have n1_ := Aside0.mk (Kd.R_below (Kd.R_below HX0.out (by repeat (first | exact Below.refl _ _ | apply pw_below_drewN | apply below_drew1))) hb_); clear HX0; have HX0 := n1_; clear n1_; have n1_ := Aside0.mk (Kd.R_below (Kd.R_below HX1.out (by repeat (first | exact Below.refl _ _ | apply pw_below_drewN | apply below_drew1))) hb_); clear HX1; have HX1 := n1_; clear n1_; have n1_ := Aside0.mk (Kd.R_below (Kd.R_below HX2.out (by repeat (first | exact Below.refl _ _ | apply pw_below_drewN | apply below_drew1))) hb_); clear HX2; have HX2 := n1_; clear n1_; have n1_ := Aside0.mk (Kd.R_below (Kd.R_below HG.out (by repeat (first | exact Below.refl _ _ | apply pw_below_drewN | apply below_drew1))) hb_); clear HG; have HG := n1_; clear n1_; have n1_ := Aside0.mk (Kd.C_below (Kd.C_below Hq1.out (by repeat (first | exact Below.refl _ _ | apply pw_below_drewN | apply below_drew1))) hb_); clear Hq1; have Hq1 := n1_; clear n1_; clear hb_; clear HSTG; have HSTG : Aside0 (Stg 16) := ⟨trivial⟩) | (go_at_call 42; (with_reducible have t_ : Aside0 (Stg 16) := HSTG); clear t_; (with_reducible refine (laws_toByteSS.calls k A2 c2 l2 t2 _ ?to16 HC2.out HT2.out).mono ?_); (case to16 => exact Kd.C_below HR2.out (by repeat (first | (with_reducible first | exact HB.out | apply below_alloc | apply pw_below_drewN | apply below_drew1) | exact HB.out))); rintro e wk_ ⟨v_, rfl, hs_, hb_⟩; obtain ⟨Aq2, cq2, rfl, hc_, hC_⟩ := Kd.R_reads (Kd.S_R hs_); have Hq2 := Aside0.mk hC_; have Lq2 := Aside0.mk hc_; clear hc_ hC_ hs_; have n1_ := Aside0.mk (below_step (by repeat (first | (with_reducible first | exact HB.out | apply below_alloc | apply pw_below_drewN | apply below_drew1) | exact HB.out)) hb_); clear HB; have HB := n1_; clear n1_; have n1_ := Aside0.mk (Kd.F_below (Kd.F_below HWF.out (by repeat (first | exact Below.refl _ _ | apply pw_below_drewN | apply below_drew1))) hb_); clear HWF; have HWF := n1_; clear n1_; have n1_ := Aside0.mk (Kd.R_below (Kd.R_below HX0.out (by repeat (first | exact Below.refl _ _ | apply pw_below_drewN | apply below_drew1))) hb_); clear HX0; have HX0 := n1_; clear n1_; have n1_ := Aside0.mk (Kd.R_below (Kd.R_below HX1.out (by repeat (first | exact Below.refl _ _ | apply pw_below_drewN | apply below_drew1))) hb_); clear HX1; have HX1 := n1_; clear n1_; have n1_ := Aside0.mk (Kd.R_below (Kd.R_below HX2.out (by repeat (first | exact Below.refl _ _ | apply pw_below_drewN | apply below_drew1))) hb_); clear HX2; have HX2 := n1_; clear n1_; have n1_ := Aside0.mk (Kd.R_below (Kd.R_below HG.out (by repeat (first | exact Below.refl _ _ | apply pw_below_drewN | apply below_drew1))) hb_); clear HG; have HG := n1_; clear n1_; clear hb_; clear HSTG; have HSTG : Aside0 (Stg 17) := ⟨trivial⟩) | (go_at_call 45; (with_reducible have t_ : Aside0 (Stg 17) := HSTG); clear t_; (with_reducible refine (laws_eqByteSS.calls k AX2 cX2 t2 Aq2 cq2 t2 true _ ?q017 HLX2.out ?q117 Lq2.out HE2.out).mono ?_); (case q017 => exact Kd.C_below (Kd.R_reads' HX2.out).2.2 (by repeat (first | exact Below.refl _ _ | apply pw_below_drewN | apply below_drew1))); (case q117 => exact Kd.C_below Hq2.out (by repeat (first | exact Below.refl _ _ | apply pw_below_drewN | apply below_drew1))); rintro e wk_ ⟨rfl, hd_⟩; have hb_ := drawn_below hd_; clear hd_; have n1_ := Aside0.mk (below_step (by repeat (first | (with_reducible first | exact HB.out | apply below_alloc | apply pw_below_drewN | apply below_drew1) | exact HB.out)) hb_); clear HB; have HB := n1_; clear n1_; have n1_ := Aside0.mk (Kd.F_below (Kd.F_below HWF.out (by repeat (first | exact Below.refl _ _ | apply pw_below_drewN | apply below_drew1))) hb_); clear HWF; have HWF := n1_; clear n1_; have n1_ := Aside0.mk (Kd.R_below (Kd.R_below HX0.out (by repeat (first | exact Below.refl _ _ | apply pw_below_drewN | apply below_drew1))) hb_); clear HX0; have HX0 := n1_; clear n1_; have n1_ := Aside0.mk (Kd.R_below (Kd.R_below HX1.out (by repeat (first | exact Below.refl _ _ | apply pw_below_drewN | apply below_drew1))) hb_); clear HX1; have HX1 := n1_; clear n1_; have n1_ := Aside0.mk (Kd.R_below (Kd.R_below HX2.out (by repeat (first | exact Below.refl _ _ | apply pw_below_drewN | apply below_drew1))) hb_); clear HX2; have HX2 := n1_; clear n1_; have n1_ := Aside0.mk (Kd.R_below (Kd.R_below HG.out (by repeat (first | exact Below.refl _ _ | apply pw_below_drewN | apply below_drew1))) hb_); clear HG; have HG := n1_; clear n1_; have n1_ := Aside0.mk (Kd.C_below (Kd.C_below Hq2.out (by repeat (first | exact Below.refl _ _ | apply pw_below_drewN | apply below_drew1))) hb_); clear Hq2; have Hq2 := n1_; clear n1_; clear hb_; clear HSTG; have HSTG : Aside0 (Stg 18) := ⟨trivial⟩) | (go_at_call 34; (with_reducible have t_ : Aside0 (Stg 18) := HSTG); clear t_; (with_reducible refine (mark_assets (fun j => N1 ≤ j ∧ j < N4) k HTX.out AX0 t0.length cX0 1 w _ ?b18 ?s18 ?r18 ?n18).mono ?_); (case b18 => exact (by repeat (first | (with_reducible first | exact HB.out | apply below_alloc | apply pw_below_drewN | apply below_drew1) | exact HB.out))); (case s18 => exact fun j hj => Nat.le_trans HN0.out hj.1); (case r18 => exact RowA.of_R (Kd.R_below HX0.out (by repeat (first | exact Below.refl _ _ | apply pw_below_drewN | apply below_drew1))) (fun _ hj => hj)); (case n18 => exact ⟨by omega, by omega, HLT0.out⟩); rintro e wk_ ⟨rfl, ha_, hb_⟩; have HX1b := Aside0.mk ((RowS.of_R (Kd.R_below HX1.out (by repeat (first | exact Below.refl _ _ | apply pw_below_drewN | apply below_drew1))) (fun _ hj => hj)).alk ha_); have HX2b := Aside0.mk ((RowR.of_R (Kd.R_below HX2.out (by repeat (first | exact Below.refl _ _ | apply pw_below_drewN | apply below_drew1))) (fun _ hj => hj) HLX3.out).alk ha_); have n1_ := Aside0.mk hb_; have n2_ := Aside0.mk (Kd.F_kept (Kd.F_below HWF.out (by repeat (first | exact Below.refl _ _ | apply pw_below_drewN | apply below_drew1))) ha_.kept (fun j h1 h2 => by have := h2.1; omega)); have n3_ := Aside0.mk (Kd.R_kept (Kd.R_below HG.out (by repeat (first | exact Below.refl _ _ | apply pw_below_drewN | apply below_drew1))) ha_.kept (fun j h1 h2 => by have := h2.2; omega)); clear HB HWF HG; have HB := n1_; have HWF := n2_; have HG := n3_; clear n1_ n2_ n3_; clear ha_ hb_; clear HSTG; have HSTG : Aside0 (Stg 19) := ⟨trivial⟩) | (go_at_call 35; (with_reducible have t_ : Aside0 (Stg 19) := HSTG); clear t_; (with_reducible refine (mark_strings (fun j => N1 ≤ j ∧ j < N4) k HTX.out AX1 t1.length cX1 _ w _ ?b19 ?s19 ?r19 ?n19).mono ?_); (case b19 => exact (by repeat (first | (with_reducible first | exact HB.out | apply below_alloc | apply pw_below_drewN | apply below_drew1) | exact HB.out))); (case s19 => exact fun j hj => Nat.le_trans HN0.out hj.1); (case r19 => exact HX1b.out); (case n19 => exact ⟨by omega, by have := HLT0.out; omega, HLT1.out⟩); rintro e wk_ ⟨rfl, ha_, hb_⟩; have hx2_ := Aside0.mk (HX2b.out.alk ha_); clear HX2b; have HX2b := hx2_; clear hx2_; have n1_ := Aside0.mk hb_; have n2_ := Aside0.mk (Kd.F_kept (Kd.F_below HWF.out (by repeat (first | exact Below.refl _ _ | apply pw_below_drewN | apply below_drew1))) ha_.kept (fun j h1 h2 => by have := h2.1; omega)); have n3_ := Aside0.mk (Kd.R_kept (Kd.R_below HG.out (by repeat (first | exact Below.refl _ _ | apply pw_below_drewN | apply below_drew1))) ha_.kept (fun j h1 h2 => by have := h2.2; omega)); clear HB HWF HG; have HB := n1_; have HWF := n2_; have HG := n3_; clear n1_ n2_ n3_; clear ha_ hb_; clear HSTG; have HSTG : Aside0 (Stg 20) := ⟨trivial⟩) | (go_at_call 46; (with_reducible have t_ : Aside0 (Stg 20) := HSTG); clear t_; (with_reducible refine (mark_rows (fun j => N1 ≤ j ∧ j < N4) AX2 t2.length cX2 _ w _ ?b20 ?s20 ?r20 ?n20).mono ?_); (case b20 => exact (by repeat (first | (with_reducible first | exact HB.out | apply below_alloc | apply pw_below_drewN | apply below_drew1) | exact HB.out))); (case s20 => exact fun j hj => Nat.le_trans HN0.out hj.1); (case r20 => exact HX2b.out); (case n20 => exact ⟨by omega, by have := HLT0.out; have := HLT1.out; omega, HLT2.out⟩); rintro e wk_ ⟨⟨km_, rfl, hk0_⟩, ha_, hb_⟩; have dk_ : decide (km_ < 0) = false := decide_eq_false (by omega); have n1_ := Aside0.mk hb_; have n2_ := Aside0.mk (Kd.F_kept (Kd.F_below HWF.out (by repeat (first | exact Below.refl _ _ | apply pw_below_drewN | apply below_drew1))) ha_.kept (fun j h1 h2 => by have := h2.1; omega)); have n3_ := Aside0.mk (Kd.R_kept (Kd.R_below HG.out (by repeat (first | exact Below.refl _ _ | apply pw_below_drewN | apply below_drew1))) ha_.kept (fun j h1 h2 => by have := h2.2; omega)); clear HB HWF HG; have HB := n1_; have HWF := n2_; have HG := n3_; clear n1_ n2_ n3_; clear ha_ hb_ hk0_; clear HSTG; have HSTG : Aside0 (Stg 21) := ⟨trivial⟩) | (go_at_call 44; (with_reducible have t_ : Aside0 (Stg 21) := HSTG); clear t_; (with_reducible refine (laws_eqInt64S.calls k AG cG g AW cW g true _ ?q021 HLG.out ?q121 HLW.out HEQ.out).mono ?_); (case q021 => exact Kd.C_below (Kd.R_reads' HG.out).2.2 (by repeat (first | exact Below.refl _ _ | apply pw_below_drewN | apply below_drew1))); (case q121 => exact Kd.C_below (Kd.F_now HWF.out) (by repeat (first | exact Below.refl _ _ | apply pw_below_drewN | apply below_drew1))); rintro e wk_ ⟨rfl, hd_⟩; have hb_ := drawn_below hd_; clear hd_; have n1_ := Aside0.mk (below_step (by repeat (first | (with_reducible first | exact HB.out | apply below_alloc | apply pw_below_drewN | apply below_drew1) | exact HB.out)) hb_); clear HB; have HB := n1_; clear n1_; have n1_ := Aside0.mk (Kd.F_below (Kd.F_below HWF.out (by repeat (first | exact Below.refl _ _ | apply pw_below_drewN | apply below_drew1))) hb_); clear HWF; have HWF := n1_; clear n1_; have n1_ := Aside0.mk (Kd.R_below (Kd.R_below HG.out (by repeat (first | exact Below.refl _ _ | apply pw_below_drewN | apply below_drew1))) hb_); clear HG; have HG := n1_; clear n1_; clear hb_; clear HSTG; have HSTG : Aside0 (Stg 22) := ⟨trivial⟩) | (go_at_call 47; (with_reducible have t_ : Aside0 (Stg 22) := HSTG); clear t_; (with_reducible refine (laws_markInt64S.calls k (fun j => N4 ≤ j) (.slice AG g.length cG) g 1 m g2 w _ ?b22 ?r22 HMK.out).mono ?_); (case b22 => exact (by repeat (first | (with_reducible first | exact HB.out | apply below_alloc | apply pw_below_drewN | apply below_drew1) | exact HB.out))); (case r22 => exact Kd.R_below HG.out (by repeat (first | exact Below.refl _ _ | apply pw_below_drewN | apply below_drew1))); rintro e wk_ ⟨rfl, hg_, hb_, hk_⟩; have n1_ := Aside0.mk hb_; have n2_ := Aside0.mk (Kd.F_kept (Kd.F_below HWF.out (by repeat (first | exact Below.refl _ _ | apply pw_below_drewN | apply below_drew1))) hk_ (fun j h1 h2 => by have := HN4.out; omega)); have HG2 := Aside0.mk (Kd.R_reads' hg_).1; have n3_ := Aside0.mk hg_; clear HB HWF HG hb_ hg_ hk_; have HB := n1_; have HWF := n2_; have HG := n3_; clear n1_ n2_ n3_; clear HSTG; have HSTG : Aside0 (Stg 23) := ⟨trivial⟩) | (go_at_call 48; (with_reducible have t_ : Aside0 (Stg 23) := HSTG); clear t_; (with_reducible refine (heldN k AG g.length cG g2 1 m _ HG2.out ?h23 HLG.out HHD.out).mono ?_); (case h23 => exact Kd.C_below (Kd.R_reads' HG.out).2.2 (by repeat (first | exact Below.refl _ _ | apply pw_below_drewN | apply below_drew1))); rintro e wk_ ⟨rfl, hd_⟩; have hb_ := drawn_below hd_; clear hd_; have n1_ := Aside0.mk (below_step (by repeat (first | (with_reducible first | exact HB.out | apply below_alloc | apply pw_below_drewN | apply below_drew1) | exact HB.out)) hb_); clear HB; have HB := n1_; clear n1_; have n1_ := Aside0.mk (Kd.F_below (Kd.F_below HWF.out (by repeat (first | exact Below.refl _ _ | apply pw_below_drewN | apply below_drew1))) hb_); clear HWF; have HWF := n1_; clear n1_; have n1_ := Aside0.mk (Kd.R_below (Kd.R_below HG.out (by repeat (first | exact Below.refl _ _ | apply pw_below_drewN | apply below_drew1))) hb_); clear HG; have HG := n1_; clear n1_; clear hb_; clear HSTG; have HSTG : Aside0 (Stg 24) := ⟨trivial⟩) | (go_at_call 26; (with_reducible have t_ : Aside0 (Stg 24) := HSTG); clear t_; (with_reducible refine (laws_toAssetS.calls k A0 c0 l0 t0 _ ?to24 HC0.out HT0.out).mono ?_); (case to24 => exact Kd.C_below HR0.out (by repeat (first | (with_reducible first | exact HB.out | apply below_alloc | apply pw_below_drewN | apply below_drew1) | exact HB.out))); rintro e wk_ ⟨v_, rfl, hs_, hb_⟩; obtain ⟨Ar0, cr0, rfl, hc_, hC_⟩ := Kd.R_reads (hs_); have Hr0 := Aside0.mk hC_; have Lr0 := Aside0.mk hc_; clear hc_ hC_ hs_; have n1_ := Aside0.mk (below_step (by repeat (first | (with_reducible first | exact HB.out | apply below_alloc | apply pw_below_drewN | apply below_drew1) | exact HB.out)) hb_); clear HB; have HB := n1_; clear n1_; have n1_ := Aside0.mk (Kd.F_below (Kd.F_below HWF.out (by repeat (first | exact Below.refl _ _ | apply pw_below_drewN | apply below_drew1))) hb_); clear HWF; have HWF := n1_; clear n1_; have n1_ := Aside0.mk (Kd.R_below (Kd.R_below HG.out (by repeat (first | exact Below.refl _ _ | apply pw_below_drewN | apply below_drew1))) hb_); clear HG; have HG := n1_; clear n1_; clear hb_; clear HSTG; have HSTG : Aside0 (Stg 25) := ⟨trivial⟩) | (go_at_call 41; (with_reducible have t_ : Aside0 (Stg 25) := HSTG); clear t_; (with_reducible refine (laws_toStringS.calls k A1 c1 l1 t1 _ ?to25 HC1.out HT1.out).mono ?_); (case to25 => exact Kd.C_below HR1.out (by repeat (first | (with_reducible first | exact HB.out | apply below_alloc | apply pw_below_drewN | apply below_drew1) | exact HB.out))); rintro e wk_ ⟨v_, rfl, hs_, hb_⟩; obtain ⟨Ar1, cr1, rfl, hc_, hC_⟩ := Kd.R_reads (hs_); have Hr1 := Aside0.mk hC_; have Lr1 := Aside0.mk hc_; clear hc_ hC_ hs_; have n1_ := Aside0.mk (below_step (by repeat (first | (with_reducible first | exact HB.out | apply below_alloc | apply pw_below_drewN | apply below_drew1) | exact HB.out)) hb_); clear HB; have HB := n1_; clear n1_; have n1_ := Aside0.mk (Kd.F_below (Kd.F_below HWF.out (by repeat (first | exact Below.refl _ _ | apply pw_below_drewN | apply below_drew1))) hb_); clear HWF; have HWF := n1_; clear n1_; have n1_ := Aside0.mk (Kd.R_below (Kd.R_below HG.out (by repeat (first | exact Below.refl _ _ | apply pw_below_drewN | apply below_drew1))) hb_); clear HG; have HG := n1_; clear n1_; have n1_ := Aside0.mk (Kd.C_below (Kd.C_below Hr0.out (by repeat (first | exact Below.refl _ _ | apply pw_below_drewN | apply below_drew1))) hb_); clear Hr0; have Hr0 := n1_; clear n1_; clear hb_; clear HSTG; have HSTG : Aside0 (Stg 26) := ⟨trivial⟩) | (go_at_call 42; (with_reducible have t_ : Aside0 (Stg 26) := HSTG); clear t_; (with_reducible refine (laws_toByteSS.calls k A2 c2 l2 t2 _ ?to26 HC2.out HT2.out).mono ?_); (case to26 => exact Kd.C_below HR2.out (by repeat (first | (with_reducible first | exact HB.out | apply below_alloc | apply pw_below_drewN | apply below_drew1) | exact HB.out))); rintro e wk_ ⟨v_, rfl, hs_, hb_⟩; obtain ⟨Ar2, cr2, rfl, hc_, hC_⟩ := Kd.R_reads (Kd.S_R hs_); have Hr2 := Aside0.mk hC_; have Lr2 := Aside0.mk hc_; clear hc_ hC_ hs_; have n1_ := Aside0.mk (below_step (by repeat (first | (with_reducible first | exact HB.out | apply below_alloc | apply pw_below_drewN | apply below_drew1) | exact HB.out)) hb_); clear HB; have HB := n1_; clear n1_; have n1_ := Aside0.mk (Kd.F_below (Kd.F_below HWF.out (by repeat (first | exact Below.refl _ _ | apply pw_below_drewN | apply below_drew1))) hb_); clear HWF; have HWF := n1_; clear n1_; have n1_ := Aside0.mk (Kd.R_below (Kd.R_below HG.out (by repeat (first | exact Below.refl _ _ | apply pw_below_drewN | apply below_drew1))) hb_); clear HG; have HG := n1_; clear n1_; have n1_ := Aside0.mk (Kd.C_below (Kd.C_below Hr0.out (by repeat (first | exact Below.refl _ _ | apply pw_below_drewN | apply below_drew1))) hb_); clear Hr0; have Hr0 := n1_; clear n1_; have n1_ := Aside0.mk (Kd.C_below (Kd.C_below Hr1.out (by repeat (first | exact Below.refl _ _ | apply pw_below_drewN | apply below_drew1))) hb_); clear Hr1; have Hr1 := n1_; clear n1_; clear hb_; clear HSTG; have HSTG : Aside0 (Stg 27) := ⟨trivial⟩) | (go_at_call 43; (with_reducible have t_ : Aside0 (Stg 27) := HSTG); clear t_; (with_reducible refine (impl_Verify.calls k Ar0 cr0 t0 Ar1 cr1 t1 Ar2 cr2 t2 g _ ?v027 Lr0.out ?v127 Lr1.out ?v227 Lr2.out HIM.out).mono ?_); (case v027 => exact Kd.C_below Hr0.out (by repeat (first | exact Below.refl _ _ | apply pw_below_drewN | apply below_drew1))); (case v127 => exact Kd.C_below Hr1.out (by repeat (first | exact Below.refl _ _ | apply pw_below_drewN | apply below_drew1))); (case v227 => exact Kd.C_below Hr2.out (by repeat (first | exact Below.refl _ _ | apply pw_below_drewN | apply below_drew1))); rintro e wk_ ⟨v_, rfl, hw_, hb_⟩; obtain ⟨AH, cH, rfl, hc_, hC_⟩ := Kd.R_reads hw_; have HCH := Aside0.mk hC_; have HLH := Aside0.mk hc_; clear hc_ hC_ hw_; have n1_ := Aside0.mk (below_step (by repeat (first | (with_reducible first | exact HB.out | apply below_alloc | apply pw_below_drewN | apply below_drew1) | exact HB.out)) hb_); clear HB; have HB := n1_; clear n1_; have n1_ := Aside0.mk (Kd.F_below (Kd.F_below HWF.out (by repeat (first | exact Below.refl _ _ | apply pw_below_drewN | apply below_drew1))) hb_); clear HWF; have HWF := n1_; clear n1_; have n1_ := Aside0.mk (Kd.R_below (Kd.R_below HG.out (by repeat (first | exact Below.refl _ _ | apply pw_below_drewN | apply below_drew1))) hb_); clear HG; have HG := n1_; clear n1_; clear hb_; clear HSTG; have HSTG : Aside0 (Stg 28) := ⟨trivial⟩) | (go_at_call 44; (with_reducible have t_ : Aside0 (Stg 28) := HSTG); clear t_; (with_reducible refine (laws_eqInt64S.calls k AH cH g AW cW g true _ ?q028 HLH.out ?q128 HLW.out HEQ.out).mono ?_); (case q028 => exact Kd.C_below HCH.out (by repeat (first | exact Below.refl _ _ | apply pw_below_drewN | apply below_drew1))); (case q128 => exact Kd.C_below (Kd.F_now HWF.out) (by repeat (first | exact Below.refl _ _ | apply pw_below_drewN | apply below_drew1))); rintro e wk_ ⟨rfl, hd_⟩; have hb_ := drawn_below hd_; clear hd_; have n1_ := Aside0.mk (below_step (by repeat (first | (with_reducible first | exact HB.out | apply below_alloc | apply pw_below_drewN | apply below_drew1) | exact HB.out)) hb_); clear HB; have HB := n1_; clear n1_; have n1_ := Aside0.mk (Kd.F_below (Kd.F_below HWF.out (by repeat (first | exact Below.refl _ _ | apply pw_below_drewN | apply below_drew1))) hb_); clear HWF; have HWF := n1_; clear n1_; have n1_ := Aside0.mk (Kd.R_below (Kd.R_below HG.out (by repeat (first | exact Below.refl _ _ | apply pw_below_drewN | apply below_drew1))) hb_); clear HG; have HG := n1_; clear n1_; have n1_ := Aside0.mk (Kd.C_below (Kd.C_below HCH.out (by repeat (first | exact Below.refl _ _ | apply pw_below_drewN | apply below_drew1))) hb_); clear HCH; have HCH := n1_; clear n1_; clear hb_; clear HSTG; have HSTG : Aside0 (Stg 29) := ⟨trivial⟩) | (go_at_call 48; (with_reducible have t_ : Aside0 (Stg 29) := HSTG); clear t_; (with_reducible refine (heldN k AG g.length cG g2 1 m _ HG2.out ?h29 HLG.out HHD.out).mono ?_); (case h29 => exact Kd.C_below (Kd.R_reads' HG.out).2.2 (by repeat (first | exact Below.refl _ _ | apply pw_below_drewN | apply below_drew1))); rintro e wk_ ⟨rfl, hd_⟩; have hb_ := drawn_below hd_; clear hd_; have n1_ := Aside0.mk (below_step (by repeat (first | (with_reducible first | exact HB.out | apply below_alloc | apply pw_below_drewN | apply below_drew1) | exact HB.out)) hb_); clear HB; have HB := n1_; clear n1_; have n1_ := Aside0.mk (Kd.F_below (Kd.F_below HWF.out (by repeat (first | exact Below.refl _ _ | apply pw_below_drewN | apply below_drew1))) hb_); clear HWF; have HWF := n1_; clear n1_; have n1_ := Aside0.mk (Kd.R_below (Kd.R_below HG.out (by repeat (first | exact Below.refl _ _ | apply pw_below_drewN | apply below_drew1))) hb_); clear HG; have HG := n1_; clear n1_; have n1_ := Aside0.mk (Kd.C_below (Kd.C_below HCH.out (by repeat (first | exact Below.refl _ _ | apply pw_below_drewN | apply below_drew1))) hb_); clear HCH; have HCH := n1_; clear n1_; clear hb_; clear HSTG; have HSTG : Aside0 (Stg 30) := ⟨trivial⟩))
        go_ret
        exact ⟨rfl, (by repeat (first | (with_reducible first | exact HB.out | apply below_alloc | apply pw_below_drewN | apply below_drew1) | exact HB.out))⟩
       ·rw [if_neg hf] at h
        cases h


end Go.Proofs.Ytelcpfanjjfgdaa.HFnExactVerify
