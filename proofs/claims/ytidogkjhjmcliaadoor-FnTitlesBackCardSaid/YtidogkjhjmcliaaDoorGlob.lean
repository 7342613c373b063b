/-
  What the title's functions read of the package's variables: some MaxLen, the table of powers of ten. Kept by all that does not write to older blocks.
-/
import Derived.Test.YtidogkjhjmcliaaDoorShelf
import Derived.Test.YtidogkjhjmcliaaDoorWWords
import Derived.WalkSmall
namespace Go.Proofs.YtidogkjhjmcliaaDoorW.PrintWords
open Go.RowKit Go.Sort
structure Glob (w : World) : Prop where
  lt : 4 ≤ w.heap.size
  max : ∃ m, w.cell? ⟨1, 0, none⟩ = some (.int .i64 m)
  tab : Lib.TabIs Tryd.prog w "internal/strconv.uint64pow10" .u64 Lib.pow10Tab
theorem Glob.below {w w' : World} (h : Glob w) (hb : Below w.heap.size w w') : Glob w' := by
  have hl := h.lt
  obtain ⟨m, hm⟩ := h.max
  refine ⟨Nat.le_trans hl hb.size, ⟨m, ?_⟩, var?_below (g := 0) hb (by kernel_rfl) (by omega) h.tab⟩
  have e := hb.block 1 (by omega)
  unfold World.cell? at hm ⊢
  simp only at hm ⊢
  rw [e]
  exact hm
theorem Glob.drewN {w : World} {n : Nat} (h : Glob w) : Glob (w.drewN n) := h.below (pw_below_drewN (Below.refl _ _) n)
theorem below_grow_title (w : World) (q : Nat) (os : Array Obj) : Below w.heap.size w (grow (w.drewN q) os) :=
  ⟨rfl, rfl, rfl, by first | (simp [grow]; done) | (simp [grow]; omega), fun i hi => by
    show ((w.drewN q).heap ++ os)[i]? = _
    rw [Array.getElem?_append_left (by show i < w.heap.size; omega)]
    rfl⟩
end Go.Proofs.YtidogkjhjmcliaaDoorW.PrintWords
