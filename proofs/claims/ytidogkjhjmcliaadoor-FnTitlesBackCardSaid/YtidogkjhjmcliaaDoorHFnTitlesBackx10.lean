-- Laid by myprint.py, a program of this repo, out of the kit's printer and this repo's own texts (wip/hand).
import Derived.Test.YtidogkjhjmcliaaDoorHFnTitlesBackx0
import Derived.Test.YtidogkjhjmcliaaDoorHFnTitlesBackx3
import Derived.Test.YtidogkjhjmcliaaDoorHFnTitlesBackx5
import Derived.Test.YtidogkjhjmcliaaDoorHFnTitlesBackx8
import Derived.Test.YtidogkjhjmcliaaDoorHFnTitlesBackx9
import Derived.Test.YtidogkjhjmcliaaDoorCmp
namespace Go.Proofs.YtidogkjhjmcliaaDoor.HFnTitlesBack
open Go.RowKit Go.Proofs.YtidogkjhjmcliaaDoorW.PrintWords Go.Proofs.YtidogkjhjmcliaaDoorW.PrintLast Go.Proofs.YtidogkjhjmcliaaDoorW.PrintMore
attribute [local go_sem] max2_int min2_int max_two min_two max_three min_three max_four min_four   -- for this text's walks alone
set_option linter.unusedVariables false
set_option linter.unusedSimpArgs false
theorem Ka : type_of% @Aside0.mk := @Aside0.mk

/-! ### spec_ReadTitles: function 11 -/
mutual
def spec_ReadTitles.l0 : Nat → ByteArray → List (S40) → Int → Option ((List (S40)) × Int × Int)
 | 0, _, _, _ => none
 | k + 1, x0, x4, x5 => if x5 < (x0.size : Int) then ((spec_l12Line.f k x0 x5).bind fun bt178 => (if bt178.2.2 = true then ((spec_l1Int.f k (wrap64 ((x4.length : Int) + 1))).bind fun t181 => (spec_ReadTitles.j1 k x0 x4 (x4.length : Int) bt178.2.1 (bt178.1.toList != t181.toList) 0 (x4.length : Int))) else (spec_ReadTitles.j1 k x0 x4 (x4.length : Int) bt178.2.1 true 0 (x4.length : Int)))) else (some (x4, 0, 0))
def spec_ReadTitles.j1 : Nat → ByteArray → List (S40) → Int → Int → Bool → Int → Int → Option ((List (S40)) × Int × Int)
 | 0, _, _, _, _, _, _, _ => none
 | k + 1, x0, x4, x6, x9, x44, x178000, x178001 => if x44 = true then (some ((([] : List (S40))), 2, x178001)) else ((spec_l12Line.f k x0 x9).bind fun bt185 => (if bt185.2.2 = true then (if (bt185.1.size : Int) = 29 then (if 12 ≤ 17 then (if 17 ≤ (bt185.1.size : Int) then (spec_ReadTitles.j2 k x0 x4 x6 bt185.1 bt185.2.1 ((bt185.1.extract 12 17).toList != ([32, 45, 45, 62, 32] : List UInt8)) 3 x178001) else (none)) else (none)) else (spec_ReadTitles.j2 k x0 x4 x6 bt185.1 bt185.2.1 true 3 x178001)) else (spec_ReadTitles.j2 k x0 x4 x6 bt185.1 bt185.2.1 true 3 x178001)))
def spec_ReadTitles.j2 : Nat → ByteArray → List (S40) → Int → ByteArray → Int → Bool → Int → Int → Option ((List (S40)) × Int × Int)
 | 0, _, _, _, _, _, _, _, _ => none
 | k + 1, x0, x4, x6, x8, x9, x67, x178000, x178001 => if x67 = true then (some ((([] : List (S40))), x178000, x178001)) else (if 0 ≤ 12 then (if 12 ≤ (x8.size : Int) then ((spec_l12Read.f k (x8.extract 0 12)).bind fun bt192 => (if 17 ≤ (x8.size : Int) then ((spec_l12Read.f k (x8.extract 17 x8.size)).bind fun bt194 => (if bt192.2 = true then (spec_ReadTitles.j3 k x0 x4 x6 x9 (!bt194.2) x178000 x178001 bt192.1 bt194.1 (⟨#[]⟩ : ByteArray)) else (spec_ReadTitles.j3 k x0 x4 x6 x9 true x178000 x178001 bt192.1 bt194.1 (⟨#[]⟩ : ByteArray)))) else (none))) else (none)) else (none))
def spec_ReadTitles.j3 : Nat → ByteArray → List (S40) → Int → Int → Bool → Int → Int → Int → Int → ByteArray → Option ((List (S40)) × Int × Int)
 | 0, _, _, _, _, _, _, _, _, _, _ => none
 | k + 1, x0, x4, x6, x9, x90, x178000, x178001, x192000, x192001, x192002 => if x90 = true then (some ((([] : List (S40))), x178000, x178001)) else (if x192000 ≥ x192001 then (spec_ReadTitles.j4 k x0 x4 x6 x9 true 4 x178001 x192000 x192001 x192002) else (if x6 > 0 then (if 0 ≤ (wrap64 (x6 - 1)) then (if (wrap64 (x6 - 1)) < (x4.length : Int) then (spec_ReadTitles.j4 k x0 x4 x6 x9 (decide (x192000 < ((rd_T40 x4 (wrap64 (x6 - 1))).f1))) 4 x178001 x192000 x192001 x192002) else (none)) else (none)) else (spec_ReadTitles.j4 k x0 x4 x6 x9 false 4 x178001 x192000 x192001 x192002)))
def spec_ReadTitles.j4 : Nat → ByteArray → List (S40) → Int → Int → Bool → Int → Int → Int → Int → ByteArray → Option ((List (S40)) × Int × Int)
 | 0, _, _, _, _, _, _, _, _, _, _ => none
 | k + 1, x0, x4, x6, x9, x113, x178000, x178001, x192000, x192001, x192002 => if x113 = true then (some ((([] : List (S40))), x178000, x178001)) else (spec_ReadTitles.l1 k x0 x4 x6 x9 x9 5 x178001 x192000 x192001 x192002)
def spec_ReadTitles.l1 : Nat → ByteArray → List (S40) → Int → Int → Int → Int → Int → Int → Int → ByteArray → Option ((List (S40)) × Int × Int)
 | 0, _, _, _, _, _, _, _, _, _, _ => none
 | k + 1, x0, x4, x6, x9, x14, x178000, x178001, x192000, x192001, x192002 => (spec_l12Line.f k x0 x9).bind fun bt203 => (if bt203.2.2 = true then (if bt203.1.toList = ([] : List UInt8) then (if x9 = x14 then (spec_ReadTitles.j6 k x0 x4 bt203.2.1 x6 x9 x14 true x178000 x178001 x192000 x192001 x192002) else (if 0 ≤ x14 then (if x14 ≤ (wrap64 (x9 - 1)) then (if (wrap64 (x9 - 1)) ≤ (x0.size : Int) then ((spec_l12Text.f k (x0.extract (x14 : Int).toNat ((wrap64 (x9 - 1)) : Int).toNat)).bind fun t209 => (spec_ReadTitles.j6 k x0 x4 bt203.2.1 x6 x9 x14 (!t209) x178000 x178001 x192000 x192001 x192002)) else (none)) else (none)) else (none))) else (spec_ReadTitles.l1 k x0 x4 x6 bt203.2.1 x14 x178000 x178001 x192000 x192001 x192002)) else (some ((([] : List (S40))), x178000, x178001)))
def spec_ReadTitles.j6 : Nat → ByteArray → List (S40) → Int → Int → Int → Int → Bool → Int → Int → Int → Int → ByteArray → Option ((List (S40)) × Int × Int)
 | 0, _, _, _, _, _, _, _, _, _, _, _, _ => none
 | k + 1, x0, x4, x5, x6, x9, x14, x143, x178000, x178001, x192000, x192001, x192002 => if x143 = true then (some ((([] : List (S40))), x178000, x178001)) else (if 0 ≤ x14 then (if x14 ≤ (wrap64 (x9 - 1)) then (if (wrap64 (x9 - 1)) ≤ (x0.size : Int) then (if x6 = 200 then (some ((([] : List (S40))), 6, x178001)) else (if x4.length < 4398046511104 then (spec_ReadTitles.l0 k x0 (x4 ++ [(⟨x192000, x192001, x0.extract (x14 : Int).toNat ((wrap64 (x9 - 1)) : Int).toNat⟩ : S40)]) x5) else (none))) else (none)) else (none)) else (none))
end
def spec_ReadTitles.f (k : Nat) (a0 : ByteArray) : Option ((List (S40)) × Int × Int) := if (a0.size : Int) > 40000 then (some ((([] : List (S40))), 1, 0)) else (spec_ReadTitles.l0 k a0 (([] : List (S40))) 0)
theorem spec_ReadTitles.mono_l : ∀ k, (∀ y0 y1 y2, LeO (spec_ReadTitles.l0 k y0 y1 y2) (spec_ReadTitles.l0 (k + 1) y0 y1 y2)) ∧ (∀ y0 y1 y2 y3 y4 y5 y6, LeO (spec_ReadTitles.j1 k y0 y1 y2 y3 y4 y5 y6) (spec_ReadTitles.j1 (k + 1) y0 y1 y2 y3 y4 y5 y6)) ∧ (∀ y0 y1 y2 y3 y4 y5 y6 y7, LeO (spec_ReadTitles.j2 k y0 y1 y2 y3 y4 y5 y6 y7) (spec_ReadTitles.j2 (k + 1) y0 y1 y2 y3 y4 y5 y6 y7)) ∧ (∀ y0 y1 y2 y3 y4 y5 y6 y7 y8 y9, LeO (spec_ReadTitles.j3 k y0 y1 y2 y3 y4 y5 y6 y7 y8 y9) (spec_ReadTitles.j3 (k + 1) y0 y1 y2 y3 y4 y5 y6 y7 y8 y9)) ∧ (∀ y0 y1 y2 y3 y4 y5 y6 y7 y8 y9, LeO (spec_ReadTitles.j4 k y0 y1 y2 y3 y4 y5 y6 y7 y8 y9) (spec_ReadTitles.j4 (k + 1) y0 y1 y2 y3 y4 y5 y6 y7 y8 y9)) ∧ (∀ y0 y1 y2 y3 y4 y5 y6 y7 y8 y9, LeO (spec_ReadTitles.l1 k y0 y1 y2 y3 y4 y5 y6 y7 y8 y9) (spec_ReadTitles.l1 (k + 1) y0 y1 y2 y3 y4 y5 y6 y7 y8 y9)) ∧ (∀ y0 y1 y2 y3 y4 y5 y6 y7 y8 y9 y10 y11, LeO (spec_ReadTitles.j6 k y0 y1 y2 y3 y4 y5 y6 y7 y8 y9 y10 y11) (spec_ReadTitles.j6 (k + 1) y0 y1 y2 y3 y4 y5 y6 y7 y8 y9 y10 y11))
 | 0 => ⟨fun _ _ _ r h => by simp [spec_ReadTitles.l0] at h, fun _ _ _ _ _ _ _ r h => by simp [spec_ReadTitles.j1] at h, fun _ _ _ _ _ _ _ _ r h => by simp [spec_ReadTitles.j2] at h, fun _ _ _ _ _ _ _ _ _ _ r h => by simp [spec_ReadTitles.j3] at h, fun _ _ _ _ _ _ _ _ _ _ r h => by simp [spec_ReadTitles.j4] at h, fun _ _ _ _ _ _ _ _ _ _ r h => by simp [spec_ReadTitles.l1] at h, fun _ _ _ _ _ _ _ _ _ _ _ _ r h => by simp [spec_ReadTitles.j6] at h⟩
 | k + 1 => by
  obtain⟨ih0,ih1,ih2,ih3,ih4,ih5,ih6⟩:=spec_ReadTitles.mono_l k
  refine⟨?_,?_,?_,?_,?_,?_,?_⟩
  ·intro y0 y1 y2
   unfold spec_ReadTitles.l0
   repeat' first|(with_reducible first|exact ih0 _ _ _|exact ih1 _ _ _ _ _ _ _|exact ih2 _ _ _ _ _ _ _ _|exact ih3 _ _ _ _ _ _ _ _ _ _|exact ih4 _ _ _ _ _ _ _ _ _ _|exact ih5 _ _ _ _ _ _ _ _ _ _|exact ih6 _ _ _ _ _ _ _ _ _ _ _ _|exact spec_l12Line.mono _ _ _|exact spec_l12Read.mono _ _|exact spec_l12Text.mono _ _|exact spec_l1Int.mono _ _|exact LeO.refl _|exact LeO.none _|refine LeO.ite ?_ ?_|refine LeO.bind ?_ (fun _=>?_))|exact ih0 _ _ _|exact ih1 _ _ _ _ _ _ _|exact ih2 _ _ _ _ _ _ _ _|exact ih3 _ _ _ _ _ _ _ _ _ _|exact ih4 _ _ _ _ _ _ _ _ _ _|exact ih5 _ _ _ _ _ _ _ _ _ _|exact ih6 _ _ _ _ _ _ _ _ _ _ _ _|exact spec_l12Line.mono _ _ _|exact spec_l12Read.mono _ _|exact spec_l12Text.mono _ _|exact spec_l1Int.mono _ _|exact LeO.none _|refine LeO.ite ?_ ?_|refine LeO.bind ?_ (fun _=>?_)
  ·intro y0 y1 y2 y3 y4 y5 y6
   unfold spec_ReadTitles.j1
   repeat' first|(with_reducible first|exact ih0 _ _ _|exact ih1 _ _ _ _ _ _ _|exact ih2 _ _ _ _ _ _ _ _|exact ih3 _ _ _ _ _ _ _ _ _ _|exact ih4 _ _ _ _ _ _ _ _ _ _|exact ih5 _ _ _ _ _ _ _ _ _ _|exact ih6 _ _ _ _ _ _ _ _ _ _ _ _|exact spec_l12Line.mono _ _ _|exact spec_l12Read.mono _ _|exact spec_l12Text.mono _ _|exact spec_l1Int.mono _ _|exact LeO.refl _|exact LeO.none _|refine LeO.ite ?_ ?_|refine LeO.bind ?_ (fun _=>?_))|exact ih0 _ _ _|exact ih1 _ _ _ _ _ _ _|exact ih2 _ _ _ _ _ _ _ _|exact ih3 _ _ _ _ _ _ _ _ _ _|exact ih4 _ _ _ _ _ _ _ _ _ _|exact ih5 _ _ _ _ _ _ _ _ _ _|exact ih6 _ _ _ _ _ _ _ _ _ _ _ _|exact spec_l12Line.mono _ _ _|exact spec_l12Read.mono _ _|exact spec_l12Text.mono _ _|exact spec_l1Int.mono _ _|exact LeO.none _|refine LeO.ite ?_ ?_|refine LeO.bind ?_ (fun _=>?_)
  ·intro y0 y1 y2 y3 y4 y5 y6 y7
   unfold spec_ReadTitles.j2
   repeat' first|(with_reducible first|exact ih0 _ _ _|exact ih1 _ _ _ _ _ _ _|exact ih2 _ _ _ _ _ _ _ _|exact ih3 _ _ _ _ _ _ _ _ _ _|exact ih4 _ _ _ _ _ _ _ _ _ _|exact ih5 _ _ _ _ _ _ _ _ _ _|exact ih6 _ _ _ _ _ _ _ _ _ _ _ _|exact spec_l12Line.mono _ _ _|exact spec_l12Read.mono _ _|exact spec_l12Text.mono _ _|exact spec_l1Int.mono _ _|exact LeO.refl _|exact LeO.none _|refine LeO.ite ?_ ?_|refine LeO.bind ?_ (fun _=>?_))|exact ih0 _ _ _|exact ih1 _ _ _ _ _ _ _|exact ih2 _ _ _ _ _ _ _ _|exact ih3 _ _ _ _ _ _ _ _ _ _|exact ih4 _ _ _ _ _ _ _ _ _ _|exact ih5 _ _ _ _ _ _ _ _ _ _|exact ih6 _ _ _ _ _ _ _ _ _ _ _ _|exact spec_l12Line.mono _ _ _|exact spec_l12Read.mono _ _|exact spec_l12Text.mono _ _|exact spec_l1Int.mono _ _|exact LeO.none _|refine LeO.ite ?_ ?_|refine LeO.bind ?_ (fun _=>?_)
  ·intro y0 y1 y2 y3 y4 y5 y6 y7 y8 y9
   unfold spec_ReadTitles.j3
   repeat' first|(with_reducible first|exact ih0 _ _ _|exact ih1 _ _ _ _ _ _ _|exact ih2 _ _ _ _ _ _ _ _|exact ih3 _ _ _ _ _ _ _ _ _ _|exact ih4 _ _ _ _ _ _ _ _ _ _|exact ih5 _ _ _ _ _ _ _ _ _ _|exact ih6 _ _ _ _ _ _ _ _ _ _ _ _|exact spec_l12Line.mono _ _ _|exact spec_l12Read.mono _ _|exact spec_l12Text.mono _ _|exact spec_l1Int.mono _ _|exact LeO.refl _|exact LeO.none _|refine LeO.ite ?_ ?_|refine LeO.bind ?_ (fun _=>?_))|exact ih0 _ _ _|exact ih1 _ _ _ _ _ _ _|exact ih2 _ _ _ _ _ _ _ _|exact ih3 _ _ _ _ _ _ _ _ _ _|exact ih4 _ _ _ _ _ _ _ _ _ _|exact ih5 _ _ _ _ _ _ _ _ _ _|exact ih6 _ _ _ _ _ _ _ _ _ _ _ _|exact spec_l12Line.mono _ _ _|exact spec_l12Read.mono _ _|exact spec_l12Text.mono _ _|exact spec_l1Int.mono _ _|exact LeO.none _|refine LeO.ite ?_ ?_|refine LeO.bind ?_ (fun _=>?_)
  ·intro y0 y1 y2 y3 y4 y5 y6 y7 y8 y9
   unfold spec_ReadTitles.j4
   repeat' first|(with_reducible first|exact ih0 _ _ _|exact ih1 _ _ _ _ _ _ _|exact ih2 _ _ _ _ _ _ _ _|exact ih3 _ _ _ _ _ _ _ _ _ _|exact ih4 _ _ _ _ _ _ _ _ _ _|exact ih5 _ _ _ _ _ _ _ _ _ _|exact ih6 _ _ _ _ _ _ _ _ _ _ _ _|exact spec_l12Line.mono _ _ _|exact spec_l12Read.mono _ _|exact spec_l12Text.mono _ _|exact spec_l1Int.mono _ _|exact LeO.refl _|exact LeO.none _|refine LeO.ite ?_ ?_|refine LeO.bind ?_ (fun _=>?_))|exact ih0 _ _ _|exact ih1 _ _ _ _ _ _ _|exact ih2 _ _ _ _ _ _ _ _|exact ih3 _ _ _ _ _ _ _ _ _ _|exact ih4 _ _ _ _ _ _ _ _ _ _|exact ih5 _ _ _ _ _ _ _ _ _ _|exact ih6 _ _ _ _ _ _ _ _ _ _ _ _|exact spec_l12Line.mono _ _ _|exact spec_l12Read.mono _ _|exact spec_l12Text.mono _ _|exact spec_l1Int.mono _ _|exact LeO.none _|refine LeO.ite ?_ ?_|refine LeO.bind ?_ (fun _=>?_)
  ·intro y0 y1 y2 y3 y4 y5 y6 y7 y8 y9
   unfold spec_ReadTitles.l1
   repeat' first|(with_reducible first|exact ih0 _ _ _|exact ih1 _ _ _ _ _ _ _|exact ih2 _ _ _ _ _ _ _ _|exact ih3 _ _ _ _ _ _ _ _ _ _|exact ih4 _ _ _ _ _ _ _ _ _ _|exact ih5 _ _ _ _ _ _ _ _ _ _|exact ih6 _ _ _ _ _ _ _ _ _ _ _ _|exact spec_l12Line.mono _ _ _|exact spec_l12Read.mono _ _|exact spec_l12Text.mono _ _|exact spec_l1Int.mono _ _|exact LeO.refl _|exact LeO.none _|refine LeO.ite ?_ ?_|refine LeO.bind ?_ (fun _=>?_))|exact ih0 _ _ _|exact ih1 _ _ _ _ _ _ _|exact ih2 _ _ _ _ _ _ _ _|exact ih3 _ _ _ _ _ _ _ _ _ _|exact ih4 _ _ _ _ _ _ _ _ _ _|exact ih5 _ _ _ _ _ _ _ _ _ _|exact ih6 _ _ _ _ _ _ _ _ _ _ _ _|exact spec_l12Line.mono _ _ _|exact spec_l12Read.mono _ _|exact spec_l12Text.mono _ _|exact spec_l1Int.mono _ _|exact LeO.none _|refine LeO.ite ?_ ?_|refine LeO.bind ?_ (fun _=>?_)
  ·intro y0 y1 y2 y3 y4 y5 y6 y7 y8 y9 y10 y11
   unfold spec_ReadTitles.j6
   repeat' first|(with_reducible first|exact ih0 _ _ _|exact ih1 _ _ _ _ _ _ _|exact ih2 _ _ _ _ _ _ _ _|exact ih3 _ _ _ _ _ _ _ _ _ _|exact ih4 _ _ _ _ _ _ _ _ _ _|exact ih5 _ _ _ _ _ _ _ _ _ _|exact ih6 _ _ _ _ _ _ _ _ _ _ _ _|exact spec_l12Line.mono _ _ _|exact spec_l12Read.mono _ _|exact spec_l12Text.mono _ _|exact spec_l1Int.mono _ _|exact LeO.refl _|exact LeO.none _|refine LeO.ite ?_ ?_|refine LeO.bind ?_ (fun _=>?_))|exact ih0 _ _ _|exact ih1 _ _ _ _ _ _ _|exact ih2 _ _ _ _ _ _ _ _|exact ih3 _ _ _ _ _ _ _ _ _ _|exact ih4 _ _ _ _ _ _ _ _ _ _|exact ih5 _ _ _ _ _ _ _ _ _ _|exact ih6 _ _ _ _ _ _ _ _ _ _ _ _|exact spec_l12Line.mono _ _ _|exact spec_l12Read.mono _ _|exact spec_l12Text.mono _ _|exact spec_l1Int.mono _ _|exact LeO.none _|refine LeO.ite ?_ ?_|refine LeO.bind ?_ (fun _=>?_)
theorem spec_ReadTitles.mono : ∀ a0 k, LeO (spec_ReadTitles.f k a0) (spec_ReadTitles.f (k + 1) a0) := by
 intro a0 k
 obtain⟨ih0,ih1,ih2,ih3,ih4,ih5,ih6⟩:=spec_ReadTitles.mono_l k
 unfold spec_ReadTitles.f
 repeat' first|(with_reducible first|exact ih0 _ _ _|exact ih1 _ _ _ _ _ _ _|exact ih2 _ _ _ _ _ _ _ _|exact ih3 _ _ _ _ _ _ _ _ _ _|exact ih4 _ _ _ _ _ _ _ _ _ _|exact ih5 _ _ _ _ _ _ _ _ _ _|exact ih6 _ _ _ _ _ _ _ _ _ _ _ _|exact spec_l12Line.mono _ _ _|exact spec_l12Read.mono _ _|exact spec_l12Text.mono _ _|exact spec_l1Int.mono _ _|exact LeO.refl _|exact LeO.none _|refine LeO.ite ?_ ?_|refine LeO.bind ?_ (fun _=>?_))|exact ih0 _ _ _|exact ih1 _ _ _ _ _ _ _|exact ih2 _ _ _ _ _ _ _ _|exact ih3 _ _ _ _ _ _ _ _ _ _|exact ih4 _ _ _ _ _ _ _ _ _ _|exact ih5 _ _ _ _ _ _ _ _ _ _|exact ih6 _ _ _ _ _ _ _ _ _ _ _ _|exact spec_l12Line.mono _ _ _|exact spec_l12Read.mono _ _|exact spec_l12Text.mono _ _|exact spec_l1Int.mono _ _|exact LeO.none _|refine LeO.ite ?_ ?_|refine LeO.bind ?_ (fun _=>?_)
def spec_ReadTitles.T24 : Bool × List (List Nat × List Nat) := (true, [([], []), ([0], [0]), ([], []), ([2], [2]), ([1, 3], [1, 3]), ([4], [4]), ([5], [5]), ([6, 5], [5, 6]), ([7, 5, 5], [5, 7]), ([8], [8]), ([9, 8], [8, 9]), ([8], [8]), ([8], [8]), ([12, 8], [8, 12]), ([11, 13, 8], [8, 11, 13]), ([14, 8], [8, 14]), ([15, 8], [8, 15]), ([10, 16, 8], [8, 10, 16]), ([8, 17, 5], [5, 8, 17]), ([5, 18], [5, 18])])
def spec_ReadTitles.B24 : List Nat := [0, 1, 0, 4, 15, 31, 63, 127, 255, 511, 1023, 511, 511, 4607, 14847, 31231, 63999, 131071, 262143, 524287]
theorem spec_ReadTitles.tab24 : rtab .any (opsOf Tryd.f11 24) = spec_ReadTitles.T24 := by kernel_rfl
theorem spec_ReadTitles.bits24 : waitsOk spec_ReadTitles.T24.2 spec_ReadTitles.B24 = true := by kernel_rfl
set_option maxHeartbeats 8000000 in
set_option maxRecDepth 100000 in
theorem spec_ReadTitles.calls (k : Nat) (a0 : ByteArray) (r1 : List (S40)) (r2 : Int) (r3 : Int) (w : World) (h : spec_ReadTitles.f k a0 = some (r1, r2, r3)) :
  Calls Tryd.prog 11 #[.string a0] w fun e w'=>∃ v0_:Value,e=.returned (.tuple #[v0_,.agg #[.int .i64 r2,.int .i64 r3]])∧Kd.R k40 40 w' w.heap.size (fun _=>True) v0_ r1∧Below w.heap.size w w':=by
 have hu30:=Tryd.underlying30
 have hu40:=Tryd.underlying40
 have HB:=Ka (Below.refl w.heap.size w)
 have H:(if (a0.size:Int) > 40000 then (some ((([]:List (S40))),1,0)) else (spec_ReadTitles.l0 k a0 (([]:List (S40))) 0))=some (r1,r2,r3):=h
 clear h
 by_cases c2:(a0.size:Int) > 40000
 ·rw [if_pos c2] at H
  have c2b0:=decide_eq_true c2
  have c2b1:decide (40000 < a0.size)=true:=decide_eq_true (by omega)
  clear c2
  obtain⟨y171,hy171⟩:∃ y_:List (S40),y_=(([]:List (S40))):=⟨_,rfl⟩
  replace H:(some (y171,1,0))=some (r1,r2,r3):=by first|(rw [hy171];with_reducible exact H)|(have yf:=(Option.bind_some _ _).symm.trans H;rw [hy171];with_reducible exact yf)|(have yf:=(Option.bind_some _ _).symm.trans H;with_reducible exact yf)|with_reducible exact H|(rw [hy171];exact H)|exact H
  have Ny171:=Ka hy171
  clear hy171
  simp only [Option.some.injEq,Prod.mk.injEq] at H
  obtain⟨rfl,rfl,rfl⟩:=H
  go_enter Tryd.func11,Tryd.ntmps11
  go_wp2_with (first|((with_reducible refine gate_dst (N:=3) rfl ?_);(try(refine gate_guard (by rfl) ?_;dsimp only));refine box_event ?hg (N:=3) ?hd (cs:=#[.int .i64 0,.int .i64 0]) (t:=30) ?hr ?_;(case hd=>rfl);(case hg=>rfl);(case hr=>first|(go_simp;done)|(go_simp;rfl));intro qe hg w3 hbox hb;have qs:=Ka (below_step (by repeat(first|(with_reducible first|exact HB.out|apply below_alloc|apply pw_below_drewN|apply below_drew1)|exact HB.out)) hb);have qt:=Ka (hbox);have qu:=Ka ((by rw [hg];exact(below_size (by repeat(first|(with_reducible first|exact HB.out|apply below_alloc|apply pw_below_drewN|apply below_drew1)|exact HB.out))):w.heap.size≤qe));have qx:=Ka ((by rw [hg];exact(below_size (by repeat(first|(with_reducible first|exact HB.out|apply below_alloc|apply pw_below_drewN|apply below_drew1)|exact HB.out))):w.heap.size≤qe));clear HB;have HB:=qs;have qa:=qt;have GW170:=qu;have qm:=qx;clear qs qt qu qx;clear hb hbox hg)|((with_reducible refine gate_dst (N:=18) rfl ?_);(try(refine gate_guard (by rfl) ?_;dsimp only));refine Kd.R_lit k40 _ 40 ?hg (N:=18) ?hd (xs:=([]:List (S40))) (inner:=[]) (ok:=fun _=>True) (okp:=fun _=>True) ?hr ?hp (fun _ hk=>hk) trivial (Below.refl _ _) (Nat.le_refl _) (by simp) ?_;(case hd=>rfl);(case hg=>rfl);(case hr=>first|(go_simp;done)|(go_simp;rfl));(case hp=>exact(Reps.none _ _));intro v172 w4 ho5 hb hg_ hnew_;clear hg_ hnew_;(first|rw [← Ny171.out] at ho5|(simp only [Int.reduceToNat] at ho5;rw [← Ny171.out] at ho5));have qs:=Ka (Kd.R_lower ho5 (below_size (by repeat(first|(with_reducible first|exact HB.out|apply below_alloc|apply pw_below_drewN|apply below_drew1|refine below_set ?_ qm.out)|exact HB.out))));have qt:=Ka (blk_below (g:=qe) (o:=.cells #[.int .i64 0,.int .i64 0] 30 (0,0)) (by(with_reducible repeat(first|refine blk_drewN ?_ _|refine blk_drew ?_|refine blk_alloc ?_ _));exact qa.out) hb);have qu:=Ka (below_step (by repeat(first|(with_reducible first|exact HB.out|apply below_alloc|apply pw_below_drewN|apply below_drew1|refine below_set ?_ qm.out)|exact HB.out)) hb);clear qa;clear HB;have HO173:=qs;have qa:=qt;have HB:=qu;clear qs qt qu;clear hb ho5;have hcz6_0:w4.cell? ⟨qe,0,none⟩=some (.int .i64 0):=(blk_cell qa.out 0).trans rfl;have hcz6_1:w4.cell? ⟨qe,1,none⟩=some (.int .i64 0):=(blk_cell qa.out 1).trans rfl;have hfz6_0:=blk_frozen qa.out 0;have hfz6_1:=blk_frozen qa.out 1))
  refine bodyPost_ret (results_tc rfl _ _ qe 30 #[.int .i64 1,.int .i64 0] (0,0) _ rfl (by(with_reducible repeat(first|refine blk_drewN ?_ _|refine blk_drew ?_|refine blk_alloc ?_ _));refine blk_put (cs:=#[.int .i64 1,.int .i64 0]) ?_ 1 _ rfl;(with_reducible repeat(first|refine blk_drewN ?_ _|refine blk_drew ?_|refine blk_alloc ?_ _));refine blk_put (cs:=#[.int .i64 0,.int .i64 0]) ?_ 0 _ rfl;(with_reducible repeat(first|refine blk_drewN ?_ _|refine blk_drew ?_|refine blk_alloc ?_ _));exact qa.out) Tryd.underlying30 rfl (by kernel_rfl)) rfl ?_
  exact⟨_,by first|rfl|(simp [errW_none,errW_some] <;> rfl)|(simp [*,errW_none,errW_some] <;> rfl),by(with_reducible repeat(first|apply Kd.R_alloc|apply Kd.R_drewN|apply Kd.R_drew));exact Kd.R_mono (Kd.R_far (p:=⟨qe,1,none⟩) (Kd.R_far (p:=⟨qe,0,none⟩) (Kd.R_types HO173.out qa.out (by decide)) (fun _ hk=>hk.2) (.int .i64 1)) (fun _ hk=>hk.2) (.int .i64 0)) (fun _ hk=>trivial),by repeat(first|(with_reducible first|exact HB.out|apply below_alloc|apply pw_below_drewN|apply below_drew1|refine below_set ?_ qm.out)|exact HB.out)⟩
 ·rw [if_neg c2] at H
  have c2b0:=decide_eq_false c2
  have c2b1:decide (40000 < a0.size)=false:=decide_eq_false (by omega)
  clear c2
  obtain⟨y174,hy174⟩:∃ y_:List (S40),y_=(([]:List (S40))):=⟨_,rfl⟩
  replace H:(spec_ReadTitles.l0 k a0 y174 0)=some (r1,r2,r3):=by first|(rw [hy174];with_reducible exact H)|(have yf:=(Option.bind_some _ _).symm.trans H;rw [hy174];with_reducible exact yf)|(have yf:=(Option.bind_some _ _).symm.trans H;with_reducible exact yf)|with_reducible exact H|(rw [hy174];exact H)|exact H
  have Ny174:=Ka hy174
  clear hy174
  have H':=Ka H
  clear H
  go_enter Tryd.func11,Tryd.ntmps11
  go_wp2_with (first|((with_reducible refine gate_dst (N:=3) rfl ?_);(try(refine gate_guard (by rfl) ?_;dsimp only));refine box_event ?hg (N:=3) ?hd (cs:=#[.int .i64 0,.int .i64 0]) (t:=30) ?hr ?_;(case hd=>rfl);(case hg=>rfl);(case hr=>first|(go_simp;done)|(go_simp;rfl));intro qe hg w7 hbox hb;have qs:=Ka (below_step (by repeat(first|(with_reducible first|exact HB.out|apply below_alloc|apply pw_below_drewN|apply below_drew1)|exact HB.out)) hb);have qt:=Ka (hbox);have qu:=Ka ((by rw [hg];exact(below_size (by repeat(first|(with_reducible first|exact HB.out|apply below_alloc|apply pw_below_drewN|apply below_drew1)|exact HB.out))):w.heap.size≤qe));have qx:=Ka ((by rw [hg];exact(below_size (by repeat(first|(with_reducible first|exact HB.out|apply below_alloc|apply pw_below_drewN|apply below_drew1)|exact HB.out))):w.heap.size≤qe));clear HB;have HB:=qs;have qa:=qt;have GW170:=qu;have qm:=qx;clear qs qt qu qx;clear hb hbox hg)|((with_reducible refine gate_dst (N:=20) rfl ?_);(try(refine gate_guard (by rfl) ?_;dsimp only));refine Kd.R_lit k40 _ 40 ?hg (N:=20) ?hd (xs:=([]:List (S40))) (inner:=[]) (ok:=fun _=>True) (okp:=fun _=>True) ?hr ?hp (fun _ hk=>hk) trivial (Below.refl _ _) (Nat.le_refl _) (by simp) ?_;(case hd=>rfl);(case hg=>rfl);(case hr=>first|(go_simp;done)|(go_simp;rfl));(case hp=>exact(Reps.none _ _));intro v175 w8 ho9 hb hg_ hnew_;clear hg_ hnew_;(first|rw [← Ny174.out] at ho9|(simp only [Int.reduceToNat] at ho9;rw [← Ny174.out] at ho9));have qs:=Ka (Kd.R_lower ho9 (below_size (by repeat(first|(with_reducible first|exact HB.out|apply below_alloc|apply pw_below_drewN|apply below_drew1|refine below_set ?_ qm.out)|exact HB.out))));have qt:=Ka (blk_below (g:=qe) (o:=.cells #[.int .i64 0,.int .i64 0] 30 (0,0)) (by(with_reducible repeat(first|refine blk_drewN ?_ _|refine blk_drew ?_|refine blk_alloc ?_ _));exact qa.out) hb);have qu:=Ka (below_step (by repeat(first|(with_reducible first|exact HB.out|apply below_alloc|apply pw_below_drewN|apply below_drew1|refine below_set ?_ qm.out)|exact HB.out)) hb);clear qa;clear HB;have HO176:=qs;have qa:=qt;have HB:=qu;clear qs qt qu;clear hb ho9))
  go_loopg [4,5] k (fun kq v4 v5 w'=>∃ (qd:List (S40)) (x5_1:Int) (qk:Int) (qh:Int),v5=.int .i64 x5_1∧Aside0 (spec_ReadTitles.l0 kq a0 qd x5_1=some (r1,r2,r3))∧Aside0 (kq≤k)∧Aside0 (Kd.R k40 40 w' w.heap.size (fun _=>True) v4 qd)∧Aside0 (w'.heap[qe]? = some (.cells #[.int .i64 qk,.int .i64 qh] 30 (0,0)))∧Aside0 (Below w.heap.size w w'))
  case atStart=>exact⟨(y174),(0),(0),(0),(by first|rfl|(simp;done)|(simp [*];done)),H',⟨Nat.le_refl _⟩,⟨by(with_reducible repeat(first|apply Kd.R_alloc|apply Kd.R_drewN|apply Kd.R_drew));exact HO176.out⟩,⟨by(with_reducible repeat(first|refine blk_drewN ?_ _|refine blk_drew ?_|refine blk_alloc ?_ _));exact qa.out⟩,⟨by repeat(first|(with_reducible first|exact HB.out|apply below_alloc|apply pw_below_drewN|apply below_drew1|refine below_set ?_ qm.out)|exact HB.out)⟩⟩
  case round=>
   clear H';try clear c1;try clear c2;try clear c2b0;try clear c2b1;try clear p2;try clear hcz6_0;try clear hcz6_1;try clear hfz6_0;try clear hfz6_1
   obtain⟨qd,x5_1,qk,qh,rfl,HA,HK1,qi,qa,HB⟩:=hrel
   cases gk with
   | zero => exact absurd HA.out (by simp [spec_ReadTitles.l0])
   | succ k1 =>
    have H:=HA.out
    clear HA
    simp only [spec_ReadTitles.l0] at H
    by_cases c10:x5_1 < (a0.size:Int)
    ·rw [if_pos c10] at H
     have c10b0:=decide_eq_true c10
     clear c10
     replace H:=Option.bind_eq_some_iff.mp H
     obtain⟨⟨t178,t179,t180⟩,A110,H⟩:=H
     try dsimp only at H
     have A11:=Ka A110
     clear A110
     have HC12:=Ka H
     clear H
     obtain⟨yh,yj,eo13⟩:=Kd.R_slice qi.out
     subst eo13
     go_upto_region 9 with (first|((with_reducible refine gate_dst (N:=7) rfl ?_);(try(refine gate_guard (by rfl) ?_;dsimp only));refine box_event ?hg (N:=7) ?hd (cs:=#[.int .i64 0,.int .i64 0]) (t:=30) ?hr ?_;(case hd=>rfl);(case hg=>rfl);(case hr=>first|(go_simp;done)|(go_simp;rfl));intro qg hg w14 hbox hb;have qs:=Ka (Kd.R_below (by(with_reducible repeat(first|apply Kd.R_alloc|apply Kd.R_drewN|apply Kd.R_drew));exact qi.out) hb);have qt:=Ka (blk_below (g:=qe) (o:=.cells #[.int .i64 qk,.int .i64 qh] 30 (0,0)) (by(with_reducible repeat(first|refine blk_drewN ?_ _|refine blk_drew ?_|refine blk_alloc ?_ _));exact qa.out) hb);have qu:=Ka (below_step (by repeat(first|(with_reducible first|exact HB.out|apply below_alloc|apply pw_below_drewN|apply below_drew1|refine below_set ?_ qm.out)|exact HB.out)) hb);have qx:=Ka (hbox);have yc:=Ka ((by rw [hg];exact(below_size (by repeat(first|(with_reducible first|exact HB.out|apply below_alloc|apply pw_below_drewN|apply below_drew1|refine below_set ?_ qm.out)|exact HB.out))):w.heap.size≤qg));have yt:=Ka ((by rw [hg];exact(below_size (by repeat(first|(with_reducible first|exact HB.out|apply below_alloc|apply pw_below_drewN|apply below_drew1|refine below_set ?_ qm.out)|exact HB.out))):w.heap.size≤qg));have n6_:=Ka ((by rw [hg];exact Nat.ne_of_lt (blk_lt (g:=qe) (o:=.cells #[.int .i64 qk,.int .i64 qh] 30 (0,0)) (by(with_reducible repeat(first|refine blk_drewN ?_ _|refine blk_drew ?_|refine blk_alloc ?_ _));exact qa.out)):qe≠qg));have n7_:=Ka ((by rw [hg];exact Nat.ne_of_gt (blk_lt (g:=qe) (o:=.cells #[.int .i64 qk,.int .i64 qh] 30 (0,0)) (by(with_reducible repeat(first|refine blk_drewN ?_ _|refine blk_drew ?_|refine blk_alloc ?_ _));exact qa.out)):qg≠qe));clear qi;clear qa;clear HB;have qi:=qs;have qa:=qt;have HB:=qu;have qb:=qx;have GW177:=yc;have qn:=yt;have ql:=n6_;have qf:=n7_;clear qs qt qu qx yc yt n6_ n7_;clear hb hbox hg;have hnb15:=qf.out;have hnc15:=ql.out;have hcz16_0:w14.cell? ⟨qg,0,none⟩=some (.int .i64 0):=(blk_cell qb.out 0).trans rfl;have hcz16_1:w14.cell? ⟨qg,1,none⟩=some (.int .i64 0):=(blk_cell qb.out 1).trans rfl;have hfz16_0:=blk_frozen qb.out 0;have hfz16_1:=blk_frozen qb.out 1)|((with_reducible refine gate_callee (f:=30) rfl ?_);refine goesL_ (some 32) rfl rfl Tryd.func30 (by kernel_rfl) rfl #[.string a0,.int .i64 x5_1] rfl (by(try simp only [List.map_toArray,List.map_cons,List.map_nil]);first|done|rfl|(simp only [List.length_drop,List.length_take];rfl)) ?_;(with_reducible refine(spec_l12Line.calls k1 a0 x5_1 t178 t179 t180 _ A11.out).mono ?_);rintro e w' ⟨rfl,⟨nd,rfl⟩⟩;refine⟨_,rfl,?_⟩))
     (try simp only [Act.put,List.setIfInBounds_toArray,List.set_cons_zero,List.set_cons_succ])
     go_cut [44] (fun v44 wc=>∃ (kq:Nat) (x44_11:Bool),v44=.bool x44_11∧Aside0 (spec_ReadTitles.j1 kq a0 qd (qd.length:Int) t179 x44_11 0 (qd.length:Int)=some (r1,r2,r3))∧Aside0 (kq≤k1)∧Aside0 (Kd.R k40 40 wc w.heap.size (fun _=>True) (.slice yh qd.length yj) qd)∧Aside0 (wc.heap[qe]? = some (.cells #[.int .i64 qk,.int .i64 qh] 30 (0,0)))∧Aside0 (wc.heap[qg]? = some (.cells #[.int .i64 0,.int .i64 (qd.length:Int)] 30 (0,0)))∧Aside0 (Below w.heap.size w wc))
     case first=>
      have H:=HC12.out
      clear HC12
      by_cases c17:t180=true
      ·subst c17
       rw[if_pos rfl] at H
       replace H:=Option.bind_eq_some_iff.mp H
       obtain⟨t181,A180,H⟩:=H
       try dsimp only at H
       have A18:=Ka A180
       clear A180
       have H':=Ka H
       clear H
       go_wp2_with (first|(go_at_call 22;(with_reducible refine(spec_l1Int.calls k1 (wrap64 ((qd.length:Int)+1)) t181 _ A18.out).mono ?_);rintro e w19 ⟨rfl,hb⟩;have qs:=Ka (Kd.R_below (by(with_reducible repeat(first|apply Kd.R_alloc|apply Kd.R_drewN|apply Kd.R_drew));exact(Kd.R_mono (Kd.R_far (p:=⟨qg,1,none⟩) (Kd.R_far (p:=⟨qg,0,none⟩) (Kd.R_types qi.out qb.out (by decide)) (fun _ hk=>hk.2) (.int .i64 0)) (fun _ hk=>hk.2) (.int .i64 (qd.length:Int))) (fun _ h_=>h_.1))) hb);have qt:=Ka (blk_below (g:=qe) (o:=.cells #[.int .i64 qk,.int .i64 qh] 30 (0,0)) (by(with_reducible repeat(first|refine blk_drewN ?_ _|refine blk_drew ?_|refine blk_alloc ?_ _));refine blk_far ?_ ql.out _;(with_reducible repeat(first|refine blk_drewN ?_ _|refine blk_drew ?_|refine blk_alloc ?_ _));refine blk_far ?_ ql.out _;(with_reducible repeat(first|refine blk_drewN ?_ _|refine blk_drew ?_|refine blk_alloc ?_ _));exact qa.out) hb);have qu:=Ka (blk_below (g:=qg) (o:=.cells #[.int .i64 0,.int .i64 (qd.length:Int)] 30 (0,0)) (by(with_reducible repeat(first|refine blk_drewN ?_ _|refine blk_drew ?_|refine blk_alloc ?_ _));refine blk_put (cs:=#[.int .i64 0,.int .i64 0]) ?_ 1 _ rfl;(with_reducible repeat(first|refine blk_drewN ?_ _|refine blk_drew ?_|refine blk_alloc ?_ _));refine blk_put (cs:=#[.int .i64 0,.int .i64 0]) ?_ 0 _ rfl;(with_reducible repeat(first|refine blk_drewN ?_ _|refine blk_drew ?_|refine blk_alloc ?_ _));exact qb.out) hb);have qx:=Ka (below_step (by repeat(first|(with_reducible first|exact HB.out|apply below_alloc|apply pw_below_drewN|apply below_drew1|refine below_set ?_ qm.out|refine below_set ?_ qn.out)|exact HB.out)) hb);clear qi;clear qa;clear qb;clear HB;have qi:=qs;have qa:=qt;have qb:=qu;have HB:=qx;clear qs qt qu qx;(try clear hb);(try clear hb2);(try clear hk);(try clear hi)))
       go_meet
       case rel=>exact⟨_,((t178.toList != t181.toList)),(by first|rfl|(simp;done)|(simp [*];done)),H',⟨by have:=HK1.out;first|omega|exact Nat.le_refl _⟩,⟨by(with_reducible repeat(first|apply Kd.R_alloc|apply Kd.R_drewN|apply Kd.R_drew));exact qi.out⟩,⟨by(with_reducible repeat(first|refine blk_drewN ?_ _|refine blk_drew ?_|refine blk_alloc ?_ _));exact qa.out⟩,⟨by(with_reducible repeat(first|refine blk_drewN ?_ _|refine blk_drew ?_|refine blk_alloc ?_ _));exact qb.out⟩,⟨by repeat(first|(with_reducible first|exact HB.out|apply below_alloc|apply pw_below_drewN|apply below_drew1|refine below_set ?_ qm.out|refine below_set ?_ qn.out)|exact HB.out)⟩⟩
      ·replace c17:=Bool.eq_false_iff.mpr c17
       subst c17
       have H1:(spec_ReadTitles.j1 k1 a0 qd (qd.length:Int) t179 true 0 (qd.length:Int))=some (r1,r2,r3):=by rw [if_neg (show ¬ (false=true) by decide)] at H;exact H
       clear H
       have H:=H1
       clear H1
       have H':=Ka H
       clear H
       go_wp2
       go_meet
       case rel=>exact⟨_,(true),(by first|rfl|(simp;done)|(simp [*];done)),H',⟨by have:=HK1.out;first|omega|exact Nat.le_refl _⟩,⟨by(with_reducible repeat(first|apply Kd.R_alloc|apply Kd.R_drewN|apply Kd.R_drew));exact Kd.R_mono (Kd.R_far (p:=⟨qg,1,none⟩) (Kd.R_far (p:=⟨qg,0,none⟩) (Kd.R_types qi.out qb.out (by decide)) (fun _ hk=>hk.2) (.int .i64 0)) (fun _ hk=>hk.2) (.int .i64 (qd.length:Int))) (fun _ hk=>trivial)⟩,⟨by(with_reducible repeat(first|refine blk_drewN ?_ _|refine blk_drew ?_|refine blk_alloc ?_ _));refine blk_far ?_ ql.out _;(with_reducible repeat(first|refine blk_drewN ?_ _|refine blk_drew ?_|refine blk_alloc ?_ _));refine blk_far ?_ ql.out _;(with_reducible repeat(first|refine blk_drewN ?_ _|refine blk_drew ?_|refine blk_alloc ?_ _));exact qa.out⟩,⟨by(with_reducible repeat(first|refine blk_drewN ?_ _|refine blk_drew ?_|refine blk_alloc ?_ _));refine blk_put (cs:=#[.int .i64 0,.int .i64 0]) ?_ 1 _ rfl;(with_reducible repeat(first|refine blk_drewN ?_ _|refine blk_drew ?_|refine blk_alloc ?_ _));refine blk_put (cs:=#[.int .i64 0,.int .i64 0]) ?_ 0 _ rfl;(with_reducible repeat(first|refine blk_drewN ?_ _|refine blk_drew ?_|refine blk_alloc ?_ _));exact qb.out⟩,⟨by repeat(first|(with_reducible first|exact HB.out|apply below_alloc|apply pw_below_drewN|apply below_drew1|refine below_set ?_ qm.out|refine below_set ?_ qn.out)|exact HB.out)⟩⟩
     case rest=>
      clear HC12;try clear c1;try clear c2;try clear c2b0;try clear c2b1;try clear p2;try clear c3;try clear p6;try clear c10;try clear c10b0;try clear c11;try clear c15;try clear c17;try clear hcz16_0;try clear hcz16_1;try clear hcz6_0;try clear hcz6_1;try clear hfz16_0;try clear hfz16_1;try clear hfz6_0;try clear hfz6_1;try clear p2
      obtain⟨kq,x44_11,rfl,HA,yi,qi,qa,qb,HB⟩:=hcut
      cases kq with
      | zero => exact absurd HA.out (by simp [spec_ReadTitles.j1])
      | succ kj11 =>
       have H:=HA.out
       clear HA
       simp only [spec_ReadTitles.j1] at H
       by_cases c20:x44_11=true
       ·subst c20
        rw[if_pos rfl] at H
        obtain⟨y182,hy182⟩:∃ y_:List (S40),y_=(([]:List (S40))):=⟨_,rfl⟩
        replace H:(some (y182,2,(qd.length:Int)))=some (r1,r2,r3):=by first|(rw [hy182];with_reducible exact H)|(have yf:=(Option.bind_some _ _).symm.trans H;rw [hy182];with_reducible exact yf)|(have yf:=(Option.bind_some _ _).symm.trans H;with_reducible exact yf)|with_reducible exact H|(rw [hy182];exact H)|exact H
        have Ny182:=Ka hy182
        clear hy182
        simp only [Option.some.injEq,Prod.mk.injEq] at H
        obtain⟨rfl,rfl,rfl⟩:=H
        have hnb21:=qf.out
        have hnc21:=ql.out
        have hcz22_0:wc.cell? ⟨qg,0,none⟩=some (.int .i64 0):=(blk_cell qb.out 0).trans rfl
        have hcz22_1:wc.cell? ⟨qg,1,none⟩=some (.int .i64 (qd.length:Int)):=(blk_cell qb.out 1).trans rfl
        have hfz22_0:=blk_frozen qb.out 0
        have hfz22_1:=blk_frozen qb.out 1
        try go_wp2
        have qs:Aside0 (Kd.R k40 40 (wc.setCell ⟨qg,0,none⟩ (.int .i64 2)) w.heap.size (fun _=>True) (.slice yh qd.length yj) qd):=⟨by(with_reducible repeat(first|apply Kd.R_alloc|apply Kd.R_drewN|apply Kd.R_drew));exact Kd.R_mono (Kd.R_far (p:=⟨qg,0,none⟩) (Kd.R_types qi.out qb.out (by decide)) (fun _ hk=>hk.2) (.int .i64 2)) (fun _ hk=>trivial)⟩
        have qt:Aside0 ((wc.setCell ⟨qg,0,none⟩ (.int .i64 2)).heap[qe]? = some (.cells #[.int .i64 qk,.int .i64 qh] 30 (0,0))):=⟨by(with_reducible repeat(first|refine blk_drewN ?_ _|refine blk_drew ?_|refine blk_alloc ?_ _));refine blk_far ?_ ql.out _;(with_reducible repeat(first|refine blk_drewN ?_ _|refine blk_drew ?_|refine blk_alloc ?_ _));exact qa.out⟩
        have qu:Aside0 ((wc.setCell ⟨qg,0,none⟩ (.int .i64 2)).heap[qg]? = some (.cells #[.int .i64 2,.int .i64 (qd.length:Int)] 30 (0,0))):=⟨by(with_reducible repeat(first|refine blk_drewN ?_ _|refine blk_drew ?_|refine blk_alloc ?_ _));refine blk_put (cs:=#[.int .i64 0,.int .i64 (qd.length:Int)]) ?_ 0 _ rfl;(with_reducible repeat(first|refine blk_drewN ?_ _|refine blk_drew ?_|refine blk_alloc ?_ _));exact qb.out⟩
        have qx:Aside0 (Below w.heap.size w (wc.setCell ⟨qg,0,none⟩ (.int .i64 2))):=⟨by repeat(first|(with_reducible first|exact HB.out|apply below_alloc|apply pw_below_drewN|apply below_drew1|refine below_set ?_ qm.out|refine below_set ?_ qn.out)|exact HB.out)⟩
        (try clear qi)
        (try clear qa)
        (try clear qb)
        (try clear HB)
        generalize (wc.setCell ⟨qg,0,none⟩ (.int .i64 2))=w23 at qs qt qu qx ⊢
        have qi:=qs
        have qa:=qt
        have qb:=qu
        have HB:=qx
        clear qs qt qu qx
        have qs:=Ka (Kd.R_drew qi.out)
        have qt:=Ka (blk_drew qa.out)
        have qu:=Ka (blk_drew qb.out)
        have qx:=Ka (below_drew1 HB.out)
        clear qi qa
        clear qb HB
        have qi:=qs
        have qa:=qt
        have qb:=qu
        have HB:=qx
        clear qs qt qu qx
        refine start_ (n:=4) (S:=fun w'=>w'.cell? ⟨qg,0,none⟩=some (.int .i64 2)∧w'.cell? ⟨qg,1,none⟩=some (.int .i64 (qd.length:Int))) (ds:=[]) #[false,false,false,false] (by kernel_rfl) rfl rfl ⟨(blk_cell qb.out 0).trans rfl,(blk_cell qb.out 1).trans rfl⟩ (fun hHeld=>?_)
        generalize w23.drew=w24 at qi qa qb HB hHeld ⊢
        refine take_ (i:=1) (N:=some 47) (v:=?_) (a':=?_) (bm 4 2) rfl rfl (by kernel_rfl) (fun _ _ _ h=>h) (Or.inl ⟨by rfl,?_⟩) hHeld ?_ ?_;rotate_left;(rintro w' ⟨s0,s1⟩;go_simp;with_reducible rfl);rotate_left;(simp only[pw];rfl)
        refine one_ (i:=0) (N:=some 46) (bm 4 3) rfl rfl (by kernel_rfl) (by decide) (fun K hK=>?_)
        refine Kd.R_lit_step k40 _ 40 ?hg (N:=46) ?hd (xs:=([]:List (S40))) (inner:=[]) (ok:=fun _=>True) (okp:=fun _=>True) ?hr ?hp (fun _ hk=>hk) trivial (Below.refl _ _) (Nat.le_refl _) (by simp) ?_;(case hd=>rfl);(case hg=>rfl);(case hr=>first|(go_simp;done)|(go_simp;rfl));(case hp=>exact(Reps.none _ _))
        intro v183 w25 ho26 hb hg_ hnew_
        clear hg_ hnew_
        (first|rw [← Ny182.out] at ho26|(simp only [Int.reduceToNat] at ho26;rw [← Ny182.out] at ho26))
        have qs:=Ka (Kd.R_elder' (by(with_reducible repeat(first|apply Kd.R_alloc|apply Kd.R_drewN|apply Kd.R_drew));exact qi.out) (Kd.R_base ho26) hb)
        have qt:=Ka (Kd.R_lower (Kd.R_new' ho26 (Kd.R_lt (by(with_reducible repeat(first|apply Kd.R_alloc|apply Kd.R_drewN|apply Kd.R_drew));exact qi.out))) (below_size (by repeat(first|(with_reducible first|exact HB.out|apply below_alloc|apply pw_below_drewN|apply below_drew1|refine below_set ?_ qm.out|refine below_set ?_ qn.out)|exact HB.out))))
        have qu:=Ka (blk_below (g:=qe) (o:=.cells #[.int .i64 qk,.int .i64 qh] 30 (0,0)) (by(with_reducible repeat(first|refine blk_drewN ?_ _|refine blk_drew ?_|refine blk_alloc ?_ _));exact qa.out) hb)
        have qx:=Ka (blk_below (g:=qg) (o:=.cells #[.int .i64 2,.int .i64 (qd.length:Int)] 30 (0,0)) (by(with_reducible repeat(first|refine blk_drewN ?_ _|refine blk_drew ?_|refine blk_alloc ?_ _));exact qb.out) hb)
        have yc:=Ka (below_step (by repeat(first|(with_reducible first|exact HB.out|apply below_alloc|apply pw_below_drewN|apply below_drew1|refine below_set ?_ qm.out|refine below_set ?_ qn.out)|exact HB.out)) hb)
        clear qi qa
        clear qb HB
        have qi:=qs
        have HO184:=qt
        have qa:=qu
        have qb:=qx
        have HB:=yc
        clear qs qt qu qx yc
        clear hb ho26
        refine hK.out _ _ ⟨(blk_cell qb.out 0).trans rfl,(blk_cell qb.out 1).trans rfl⟩ (fun hHeld=>?_)
        clear hK K
        refine norm_ (a':=?_) ?_ ?_;rotate_left;(show Act.put _ (some 46) _=_;simp only[pw];rfl)
        refine pure_ (i:=2) (N:=some 2) (v:=?_) (a':=?_) (bm 4 7) rfl rfl (by kernel_rfl) (fun _ _ _ h=>h) (Or.inl ⟨by rfl,?_⟩) ?_ ?_;rotate_left;(intro w';go_simp;with_reducible rfl);rotate_left;(simp only[pw];rfl)
        refine one_ (i:=3) (N:=none) (bm 4 15) rfl rfl (by kernel_rfl) (by decide) (fun K hK=>?_)
        have hs27:w25.cell? ⟨qe,0,none⟩=some (.int .i64 qk):=(blk_cell qa.out 0).trans rfl
        have hfs27:=blk_frozen qa.out 0
        have hns27_1:=qf.out
        have hms27_1:=ql.out
        have hs28:w25.cell? ⟨qe,1,none⟩=some (.int .i64 qh):=(blk_cell qa.out 1).trans rfl
        have hfs28:=blk_frozen qa.out 1
        have hns28_1:=qf.out
        have hms28_1:=ql.out
        refine skip_ (w1:=?_) (by rfl) rfl ?_ ?_
        rotate_left
        ·go_simp
         rfl
        refine hK.out _ _ ⟨((cell_far (p:=⟨qe,_,none⟩) qf.out _).trans (((cell_far (p:=⟨qe,_,none⟩) qf.out _).trans (hHeld.1)))),((cell_far (p:=⟨qe,_,none⟩) qf.out _).trans (((cell_far (p:=⟨qe,_,none⟩) qf.out _).trans (hHeld.2))))⟩ (fun hHeld=>?_)
        clear hK K
        refine done_ (by kernel_rfl) ?_
        try go_wp2
        refine bodyPost_ret (results_tc rfl _ _ qe 30 #[.int .i64 2,.int .i64 (qd.length:Int)] (0,0) _ rfl (by(with_reducible repeat(first|refine blk_drewN ?_ _|refine blk_drew ?_|refine blk_alloc ?_ _));refine blk_put (cs:=#[.int .i64 2,.int .i64 qh]) ?_ 1 _ rfl;(with_reducible repeat(first|refine blk_drewN ?_ _|refine blk_drew ?_|refine blk_alloc ?_ _));refine blk_put (cs:=#[.int .i64 qk,.int .i64 qh]) ?_ 0 _ rfl;(with_reducible repeat(first|refine blk_drewN ?_ _|refine blk_drew ?_|refine blk_alloc ?_ _));exact qa.out) Tryd.underlying30 rfl (by kernel_rfl)) rfl ?_
        exact⟨_,by first|rfl|(simp [errW_none,errW_some] <;> rfl)|(simp [*,errW_none,errW_some] <;> rfl),by(with_reducible repeat(first|apply Kd.R_alloc|apply Kd.R_drewN|apply Kd.R_drew));exact Kd.R_mono (Kd.R_far (p:=⟨qe,1,none⟩) (Kd.R_far (p:=⟨qe,0,none⟩) (Kd.R_types HO184.out qa.out (by decide)) (fun _ hk=>hk.2) (.int .i64 2)) (fun _ hk=>hk.2) (.int .i64 (qd.length:Int))) (fun _ hk=>trivial),by repeat(first|(with_reducible first|exact HB.out|apply below_alloc|apply pw_below_drewN|apply below_drew1|refine below_set ?_ qm.out|refine below_set ?_ qn.out)|exact HB.out)⟩
       ·replace c20:=Bool.eq_false_iff.mpr c20
        subst c20
        have H1:((spec_l12Line.f kj11 a0 t179).bind fun bt185=>(if bt185.2.2=true then (if (bt185.1.size:Int)=29 then (if 12≤17 then (if 17≤(bt185.1.size:Int) then (spec_ReadTitles.j2 kj11 a0 qd (qd.length:Int) bt185.1 bt185.2.1 ((bt185.1.extract 12 17).toList != ([32,45,45,62,32]:List UInt8)) 3 (qd.length:Int)) else (none)) else (none)) else (spec_ReadTitles.j2 kj11 a0 qd (qd.length:Int) bt185.1 bt185.2.1 true 3 (qd.length:Int))) else (spec_ReadTitles.j2 kj11 a0 qd (qd.length:Int) bt185.1 bt185.2.1 true 3 (qd.length:Int))))=some (r1,r2,r3):=by rw [if_neg (show ¬ (false=true) by decide)] at H;exact H
        clear H
        have H:=H1
        clear H1
        replace H:=Option.bind_eq_some_iff.mp H
        obtain⟨⟨ye,qw,t187⟩,A290,H⟩:=H
        try dsimp only at H
        have A29:=Ka A290
        clear A290
        have HC30:=Ka H
        clear H
        go_upto_region 14 with (first|((with_reducible refine gate_callee (f:=30) rfl ?_);refine goesL_ (some 51) rfl rfl Tryd.func30 (by kernel_rfl) rfl #[.string a0,.int .i64 t179] rfl (by(try simp only [List.map_toArray,List.map_cons,List.map_nil]);first|done|rfl|(simp only [List.length_drop,List.length_take];rfl)) ?_;(with_reducible refine(spec_l12Line.calls kj11 a0 t179 ye qw t187 _ A29.out).mono ?_);rintro e w' ⟨rfl,⟨nd,rfl⟩⟩;refine⟨_,rfl,?_⟩;(try(rw [drewN_self wc];generalize hq_:World.drewN wc _=wc;have qs:Aside0 (Kd.R k40 40 wc w.heap.size (fun _=>True) (.slice yh qd.length yj) qd):=⟨by rw [← hq_];exact(by(with_reducible repeat(first|apply Kd.R_alloc|apply Kd.R_drewN|apply Kd.R_drew));exact qi.out)⟩;have qt:Aside0 (wc.heap[qe]? = some (.cells #[.int .i64 qk,.int .i64 qh] 30 (0,0))):=⟨by rw [← hq_];exact(by(with_reducible repeat(first|refine blk_drewN ?_ _|refine blk_drew ?_|refine blk_alloc ?_ _));exact qa.out)⟩;have qu:Aside0 (wc.heap[qg]? = some (.cells #[.int .i64 0,.int .i64 (qd.length:Int)] 30 (0,0))):=⟨by rw [← hq_];exact(by(with_reducible repeat(first|refine blk_drewN ?_ _|refine blk_drew ?_|refine blk_alloc ?_ _));exact qb.out)⟩;have qx:Aside0 (Below w.heap.size w wc):=⟨by rw [← hq_];exact(by repeat(first|(with_reducible first|exact HB.out|apply below_alloc|apply pw_below_drewN|apply below_drew1|refine below_set ?_ qm.out|refine below_set ?_ qn.out)|exact HB.out))⟩;clear qi qa qb HB hq_;have qi:=qs;have qa:=qt;have qb:=qu;have HB:=qx;clear qs qt qu qx));have hnb31:=qf.out;have hnc31:=ql.out;have hcz32_0:wc.cell? ⟨qg,0,none⟩=some (.int .i64 0):=(blk_cell qb.out 0).trans rfl;have hcz32_1:wc.cell? ⟨qg,1,none⟩=some (.int .i64 (qd.length:Int)):=(blk_cell qb.out 1).trans rfl;have hfz32_0:=blk_frozen qb.out 0;have hfz32_1:=blk_frozen qb.out 1))
        (try simp only [Act.put,List.setIfInBounds_toArray,List.set_cons_zero,List.set_cons_succ])
        go_cut [67] (fun v67 wc=>∃ (kq:Nat) (x67_29:Bool),v67=.bool x67_29∧Aside0 (spec_ReadTitles.j2 kq a0 qd (qd.length:Int) ye qw x67_29 3 (qd.length:Int)=some (r1,r2,r3))∧Aside0 (kq≤kj11)∧Aside0 (Kd.R k40 40 wc w.heap.size (fun _=>True) (.slice yh qd.length yj) qd)∧Aside0 (wc.heap[qe]? = some (.cells #[.int .i64 qk,.int .i64 qh] 30 (0,0)))∧Aside0 (wc.heap[qg]? = some (.cells #[.int .i64 3,.int .i64 (qd.length:Int)] 30 (0,0)))∧Aside0 (Below w.heap.size w wc))
        case first=>
         have H:=HC30.out
         clear HC30
         by_cases c33:t187=true
         ·subst c33
          rw[if_pos rfl] at H
          by_cases c34:(ye.size:Int)=29
          ·rw [if_pos c34] at H
           have yr:((ye.size:Int) == 29)=true:=beq_iff_eq.mpr c34
           have c34b1:((ye.size:Int) != 29)=false:=bne_eq_false_iff_eq.mpr c34
           clear c34
           (first|rw [yr]|(simp only [i64_w,i32_w];rw [yr])|skip)
           by_cases c35:12≤17
           case neg=>rw[if_neg c35] at H;exact absurd H (by simp)
           rw[if_pos c35] at H
           have c35b0:=eq_true c35
           have c35b1:decide (12≤17)=true:=decide_eq_true c35
           clear c35
           by_cases c36:17≤(ye.size:Int)
           case neg=>rw[if_neg c36] at H;exact absurd H (by simp)
           rw[if_pos c36] at H
           have c36b0:=eq_true c36
           have c36b1:decide (17≤(ye.size:Int))=true:=decide_eq_true c36
           clear c36
           have H':=Ka H
           clear H
           go_wp2
           go_meet
           case rel=>exact⟨_,(((ye.extract 12 17).toList != ([32,45,45,62,32]:List UInt8))),(by first|rfl|(simp;done)|(simp [*];done)),H',⟨by have:=HK1.out;have:=yi.out;first|omega|exact Nat.le_refl _⟩,⟨by(with_reducible repeat(first|apply Kd.R_alloc|apply Kd.R_drewN|apply Kd.R_drew));exact Kd.R_mono (Kd.R_far (p:=⟨qg,0,none⟩) (Kd.R_types qi.out qb.out (by decide)) (fun _ hk=>hk.2) (.int .i64 3)) (fun _ hk=>trivial)⟩,⟨by(with_reducible repeat(first|refine blk_drewN ?_ _|refine blk_drew ?_|refine blk_alloc ?_ _));refine blk_far ?_ ql.out _;(with_reducible repeat(first|refine blk_drewN ?_ _|refine blk_drew ?_|refine blk_alloc ?_ _));exact qa.out⟩,⟨by(with_reducible repeat(first|refine blk_drewN ?_ _|refine blk_drew ?_|refine blk_alloc ?_ _));refine blk_put (cs:=#[.int .i64 0,.int .i64 (qd.length:Int)]) ?_ 0 _ rfl;(with_reducible repeat(first|refine blk_drewN ?_ _|refine blk_drew ?_|refine blk_alloc ?_ _));exact qb.out⟩,⟨by repeat(first|(with_reducible first|exact HB.out|apply below_alloc|apply pw_below_drewN|apply below_drew1|refine below_set ?_ qm.out|refine below_set ?_ qn.out)|exact HB.out)⟩⟩
          ·rw [if_neg c34] at H
           have yr:((ye.size:Int) == 29)=false:=beq_eq_false_iff_ne.mpr c34
           have c34b1:((ye.size:Int) != 29)=true:=bne_iff_ne.mpr c34
           (first|rw [yr]|(simp only [i64_w,i32_w];rw [yr])|skip)
           have H':=Ka H
           clear H
           go_wp2
           go_meet
           case rel=>exact⟨_,(true),(by first|rfl|(simp;done)|(simp [*];done)),H',⟨by have:=HK1.out;have:=yi.out;first|omega|exact Nat.le_refl _⟩,⟨by(with_reducible repeat(first|apply Kd.R_alloc|apply Kd.R_drewN|apply Kd.R_drew));exact Kd.R_mono (Kd.R_far (p:=⟨qg,0,none⟩) (Kd.R_types qi.out qb.out (by decide)) (fun _ hk=>hk.2) (.int .i64 3)) (fun _ hk=>trivial)⟩,⟨by(with_reducible repeat(first|refine blk_drewN ?_ _|refine blk_drew ?_|refine blk_alloc ?_ _));refine blk_far ?_ ql.out _;(with_reducible repeat(first|refine blk_drewN ?_ _|refine blk_drew ?_|refine blk_alloc ?_ _));exact qa.out⟩,⟨by(with_reducible repeat(first|refine blk_drewN ?_ _|refine blk_drew ?_|refine blk_alloc ?_ _));refine blk_put (cs:=#[.int .i64 0,.int .i64 (qd.length:Int)]) ?_ 0 _ rfl;(with_reducible repeat(first|refine blk_drewN ?_ _|refine blk_drew ?_|refine blk_alloc ?_ _));exact qb.out⟩,⟨by repeat(first|(with_reducible first|exact HB.out|apply below_alloc|apply pw_below_drewN|apply below_drew1|refine below_set ?_ qm.out|refine below_set ?_ qn.out)|exact HB.out)⟩⟩
         ·replace c33:=Bool.eq_false_iff.mpr c33
          subst c33
          have H1:(spec_ReadTitles.j2 kj11 a0 qd (qd.length:Int) ye qw true 3 (qd.length:Int))=some (r1,r2,r3):=by rw [if_neg (show ¬ (false=true) by decide)] at H;exact H
          clear H
          have H:=H1
          clear H1
          have H':=Ka H
          clear H
          go_wp2
          go_meet
          case rel=>exact⟨_,(true),(by first|rfl|(simp;done)|(simp [*];done)),H',⟨by have:=HK1.out;have:=yi.out;first|omega|exact Nat.le_refl _⟩,⟨by(with_reducible repeat(first|apply Kd.R_alloc|apply Kd.R_drewN|apply Kd.R_drew));exact Kd.R_mono (Kd.R_far (p:=⟨qg,0,none⟩) (Kd.R_types qi.out qb.out (by decide)) (fun _ hk=>hk.2) (.int .i64 3)) (fun _ hk=>trivial)⟩,⟨by(with_reducible repeat(first|refine blk_drewN ?_ _|refine blk_drew ?_|refine blk_alloc ?_ _));refine blk_far ?_ ql.out _;(with_reducible repeat(first|refine blk_drewN ?_ _|refine blk_drew ?_|refine blk_alloc ?_ _));exact qa.out⟩,⟨by(with_reducible repeat(first|refine blk_drewN ?_ _|refine blk_drew ?_|refine blk_alloc ?_ _));refine blk_put (cs:=#[.int .i64 0,.int .i64 (qd.length:Int)]) ?_ 0 _ rfl;(with_reducible repeat(first|refine blk_drewN ?_ _|refine blk_drew ?_|refine blk_alloc ?_ _));exact qb.out⟩,⟨by repeat(first|(with_reducible first|exact HB.out|apply below_alloc|apply pw_below_drewN|apply below_drew1|refine below_set ?_ qm.out|refine below_set ?_ qn.out)|exact HB.out)⟩⟩
        case rest=>
         clear HC30;try clear c1;try clear c2;try clear c2b0;try clear c2b1;try clear p2;try clear c3;try clear p6;try clear c10;try clear c10b0;try clear c11;try clear c15;try clear c17;try clear c20;try clear c21;try clear c30;try clear c31;try clear c33;try clear c34;try clear yr;try clear c34b1;try clear c35;try clear c35b0;try clear c35b1;try clear c36;try clear c36b0;try clear c36b1;try clear hcz16_0;try clear hcz16_1;try clear hcz22_0;try clear hcz22_1;try clear hcz32_0;try clear hcz32_1;try clear hcz6_0;try clear hcz6_1;try clear hfz16_0;try clear hfz16_1;try clear hfz22_0;try clear hfz22_1;try clear hfz32_0;try clear hfz32_1;try clear hfz6_0;try clear hfz6_1;try clear p2;try clear p6
         obtain⟨kq,x67_29,rfl,HA,yq,qi,qa,qb,HB⟩:=hcut
         cases kq with
         | zero => exact absurd HA.out (by simp [spec_ReadTitles.j2])
         | succ kj29 =>
          have H:=HA.out
          clear HA
          simp only [spec_ReadTitles.j2] at H
          by_cases c37:x67_29=true
          ·subst c37
           rw[if_pos rfl] at H
           obtain⟨y188,hy188⟩:∃ y_:List (S40),y_=(([]:List (S40))):=⟨_,rfl⟩
           replace H:(some (y188,3,(qd.length:Int)))=some (r1,r2,r3):=by first|(rw [hy188];with_reducible exact H)|(have yf:=(Option.bind_some _ _).symm.trans H;rw [hy188];with_reducible exact yf)|(have yf:=(Option.bind_some _ _).symm.trans H;with_reducible exact yf)|with_reducible exact H|(rw [hy188];exact H)|exact H
           have Ny188:=Ka hy188
           clear hy188
           simp only [Option.some.injEq,Prod.mk.injEq] at H
           obtain⟨rfl,rfl,rfl⟩:=H
           try go_wp2
           have qs:=Ka (Kd.R_drew qi.out)
           have qt:=Ka (blk_drew qa.out)
           have qu:=Ka (blk_drew qb.out)
           have qx:=Ka (below_drew1 HB.out)
           clear qi qa
           clear qb HB
           have qi:=qs
           have qa:=qt
           have qb:=qu
           have HB:=qx
           clear qs qt qu qx
           refine start_ (n:=4) (S:=fun w'=>w'.cell? ⟨qg,0,none⟩=some (.int .i64 3)∧w'.cell? ⟨qg,1,none⟩=some (.int .i64 (qd.length:Int))) (ds:=[]) #[false,false,false,false] (by kernel_rfl) rfl rfl ⟨(blk_cell qb.out 0).trans rfl,(blk_cell qb.out 1).trans rfl⟩ (fun hHeld=>?_)
           generalize wc.drew=w38 at qi qa qb HB hHeld ⊢
           refine take_ (i:=1) (N:=some 69) (v:=?_) (a':=?_) (bm 4 2) rfl rfl (by kernel_rfl) (fun _ _ _ h=>h) (Or.inl ⟨by rfl,?_⟩) hHeld ?_ ?_;rotate_left;(rintro w' ⟨s0,s1⟩;go_simp;with_reducible rfl);rotate_left;(simp only[pw];rfl)
           refine one_ (i:=0) (N:=some 68) (bm 4 3) rfl rfl (by kernel_rfl) (by decide) (fun K hK=>?_)
           refine Kd.R_lit_step k40 _ 40 ?hg (N:=68) ?hd (xs:=([]:List (S40))) (inner:=[]) (ok:=fun _=>True) (okp:=fun _=>True) ?hr ?hp (fun _ hk=>hk) trivial (Below.refl _ _) (Nat.le_refl _) (by simp) ?_;(case hd=>rfl);(case hg=>rfl);(case hr=>first|(go_simp;done)|(go_simp;rfl));(case hp=>exact(Reps.none _ _))
           intro v189 w39 ho40 hb hg_ hnew_
           clear hg_ hnew_
           (first|rw [← Ny188.out] at ho40|(simp only [Int.reduceToNat] at ho40;rw [← Ny188.out] at ho40))
           have qs:=Ka (Kd.R_elder' (by(with_reducible repeat(first|apply Kd.R_alloc|apply Kd.R_drewN|apply Kd.R_drew));exact qi.out) (Kd.R_base ho40) hb)
           have qt:=Ka (Kd.R_lower (Kd.R_new' ho40 (Kd.R_lt (by(with_reducible repeat(first|apply Kd.R_alloc|apply Kd.R_drewN|apply Kd.R_drew));exact qi.out))) (below_size (by repeat(first|(with_reducible first|exact HB.out|apply below_alloc|apply pw_below_drewN|apply below_drew1|refine below_set ?_ qm.out|refine below_set ?_ qn.out)|exact HB.out))))
           have qu:=Ka (blk_below (g:=qe) (o:=.cells #[.int .i64 qk,.int .i64 qh] 30 (0,0)) (by(with_reducible repeat(first|refine blk_drewN ?_ _|refine blk_drew ?_|refine blk_alloc ?_ _));exact qa.out) hb)
           have qx:=Ka (blk_below (g:=qg) (o:=.cells #[.int .i64 3,.int .i64 (qd.length:Int)] 30 (0,0)) (by(with_reducible repeat(first|refine blk_drewN ?_ _|refine blk_drew ?_|refine blk_alloc ?_ _));exact qb.out) hb)
           have yc:=Ka (below_step (by repeat(first|(with_reducible first|exact HB.out|apply below_alloc|apply pw_below_drewN|apply below_drew1|refine below_set ?_ qm.out|refine below_set ?_ qn.out)|exact HB.out)) hb)
           clear qi qa
           clear qb HB
           have qi:=qs
           have HO190:=qt
           have qa:=qu
           have qb:=qx
           have HB:=yc
           clear qs qt qu qx yc
           clear hb ho40
           refine hK.out _ _ ⟨(blk_cell qb.out 0).trans rfl,(blk_cell qb.out 1).trans rfl⟩ (fun hHeld=>?_)
           clear hK K
           refine norm_ (a':=?_) ?_ ?_;rotate_left;(show Act.put _ (some 68) _=_;simp only[pw];rfl)
           refine pure_ (i:=2) (N:=some 2) (v:=?_) (a':=?_) (bm 4 7) rfl rfl (by kernel_rfl) (fun _ _ _ h=>h) (Or.inl ⟨by rfl,?_⟩) ?_ ?_;rotate_left;(intro w';go_simp;with_reducible rfl);rotate_left;(simp only[pw];rfl)
           refine one_ (i:=3) (N:=none) (bm 4 15) rfl rfl (by kernel_rfl) (by decide) (fun K hK=>?_)
           have hs41:w39.cell? ⟨qe,0,none⟩=some (.int .i64 qk):=(blk_cell qa.out 0).trans rfl
           have hfs41:=blk_frozen qa.out 0
           have hns41_1:=qf.out
           have hms41_1:=ql.out
           have hs42:w39.cell? ⟨qe,1,none⟩=some (.int .i64 qh):=(blk_cell qa.out 1).trans rfl
           have hfs42:=blk_frozen qa.out 1
           have hns42_1:=qf.out
           have hms42_1:=ql.out
           refine skip_ (w1:=?_) (by rfl) rfl ?_ ?_
           rotate_left
           ·go_simp
            rfl
           refine hK.out _ _ ⟨((cell_far (p:=⟨qe,_,none⟩) qf.out _).trans (((cell_far (p:=⟨qe,_,none⟩) qf.out _).trans (hHeld.1)))),((cell_far (p:=⟨qe,_,none⟩) qf.out _).trans (((cell_far (p:=⟨qe,_,none⟩) qf.out _).trans (hHeld.2))))⟩ (fun hHeld=>?_)
           clear hK K
           refine done_ (by kernel_rfl) ?_
           try go_wp2
           refine bodyPost_ret (results_tc rfl _ _ qe 30 #[.int .i64 3,.int .i64 (qd.length:Int)] (0,0) _ rfl (by(with_reducible repeat(first|refine blk_drewN ?_ _|refine blk_drew ?_|refine blk_alloc ?_ _));refine blk_put (cs:=#[.int .i64 3,.int .i64 qh]) ?_ 1 _ rfl;(with_reducible repeat(first|refine blk_drewN ?_ _|refine blk_drew ?_|refine blk_alloc ?_ _));refine blk_put (cs:=#[.int .i64 qk,.int .i64 qh]) ?_ 0 _ rfl;(with_reducible repeat(first|refine blk_drewN ?_ _|refine blk_drew ?_|refine blk_alloc ?_ _));exact qa.out) Tryd.underlying30 rfl (by kernel_rfl)) rfl ?_
           exact⟨_,by first|rfl|(simp [errW_none,errW_some] <;> rfl)|(simp [*,errW_none,errW_some] <;> rfl),by(with_reducible repeat(first|apply Kd.R_alloc|apply Kd.R_drewN|apply Kd.R_drew));exact Kd.R_mono (Kd.R_far (p:=⟨qe,1,none⟩) (Kd.R_far (p:=⟨qe,0,none⟩) (Kd.R_types HO190.out qa.out (by decide)) (fun _ hk=>hk.2) (.int .i64 3)) (fun _ hk=>hk.2) (.int .i64 (qd.length:Int))) (fun _ hk=>trivial),by repeat(first|(with_reducible first|exact HB.out|apply below_alloc|apply pw_below_drewN|apply below_drew1|refine below_set ?_ qm.out|refine below_set ?_ qn.out)|exact HB.out)⟩
          ·replace c37:=Bool.eq_false_iff.mpr c37
           subst c37
           have H1:(if 0≤12 then (if 12≤(ye.size:Int) then ((spec_l12Read.f kj29 (ye.extract 0 12)).bind fun bt192=>(if 17≤(ye.size:Int) then ((spec_l12Read.f kj29 (ye.extract 17 ye.size)).bind fun bt194=>(if bt192.2=true then (spec_ReadTitles.j3 kj29 a0 qd (qd.length:Int) qw (!bt194.2) 3 (qd.length:Int) bt192.1 bt194.1 (⟨#[]⟩:ByteArray)) else (spec_ReadTitles.j3 kj29 a0 qd (qd.length:Int) qw true 3 (qd.length:Int) bt192.1 bt194.1 (⟨#[]⟩:ByteArray)))) else (none))) else (none)) else (none))=some (r1,r2,r3):=by rw [if_neg (show ¬ (false=true) by decide)] at H;exact H
           clear H
           have H:=H1
           clear H1
           by_cases c43:0≤12
           case neg=>rw[if_neg c43] at H;exact absurd H (by simp)
           rw[if_pos c43] at H
           have c43b0:=eq_true c43
           have c43b1:decide (0≤12)=true:=decide_eq_true c43
           clear c43
           by_cases c44:12≤(ye.size:Int)
           case neg=>rw[if_neg c44] at H;exact absurd H (by simp)
           rw[if_pos c44] at H
           have c44b0:=eq_true c44
           have c44b1:decide (12≤(ye.size:Int))=true:=decide_eq_true c44
           clear c44
           replace H:=Option.bind_eq_some_iff.mp H
           obtain⟨⟨qr,t193⟩,A450,H⟩:=H
           try dsimp only at H
           have A45:=Ka A450
           clear A450
           by_cases c46:17≤(ye.size:Int)
           case neg=>rw[if_neg c46] at H;exact absurd H (by simp)
           rw[if_pos c46] at H
           have c46b0:=eq_true c46
           have c46b1:decide (17≤(ye.size:Int))=true:=decide_eq_true c46
           clear c46
           replace H:=Option.bind_eq_some_iff.mp H
           obtain⟨⟨qy,t195⟩,A470,H⟩:=H
           try dsimp only at H
           have A47:=Ka A470
           clear A470
           have HC48:=Ka H
           clear H
           go_upto_region 21 with (first|((with_reducible refine gate_dst (N:=11) rfl ?_);(try(refine gate_guard (by rfl) ?_;dsimp only));refine box_event ?hg (N:=11) ?hd (cs:=#[.int .i64 0,.int .i64 0,.string (⟨#[]⟩:ByteArray)]) (t:=40) ?hr ?_;(case hd=>rfl);(case hg=>rfl);(case hr=>first|(go_simp;done)|(go_simp;rfl));intro qj hg w49 hbox hb;have qs:=Ka (Kd.R_below (Kd.R_elderB (by(with_reducible repeat(first|apply Kd.R_alloc|apply Kd.R_drewN|apply Kd.R_drew));exact qi.out) qj (Nat.le_of_eq hg.symm)) hb);have qt:=Ka (blk_below (g:=qe) (o:=.cells #[.int .i64 qk,.int .i64 qh] 30 (0,0)) (by(with_reducible repeat(first|refine blk_drewN ?_ _|refine blk_drew ?_|refine blk_alloc ?_ _));exact qa.out) hb);have qu:=Ka (blk_below (g:=qg) (o:=.cells #[.int .i64 3,.int .i64 (qd.length:Int)] 30 (0,0)) (by(with_reducible repeat(first|refine blk_drewN ?_ _|refine blk_drew ?_|refine blk_alloc ?_ _));exact qb.out) hb);have qx:=Ka (below_step (by repeat(first|(with_reducible first|exact HB.out|apply below_alloc|apply pw_below_drewN|apply below_drew1|refine below_set ?_ qm.out|refine below_set ?_ qn.out)|exact HB.out)) hb);have yc:=Ka (hbox);have yt:=Ka ((by rw [hg];exact(below_size (by repeat(first|(with_reducible first|exact HB.out|apply below_alloc|apply pw_below_drewN|apply below_drew1|refine below_set ?_ qm.out|refine below_set ?_ qn.out)|exact HB.out))):w.heap.size≤qj));have n6_:=Ka ((by rw [hg];exact(below_size (by repeat(first|(with_reducible first|exact HB.out|apply below_alloc|apply pw_below_drewN|apply below_drew1|refine below_set ?_ qm.out|refine below_set ?_ qn.out)|exact HB.out))):w.heap.size≤qj));have n7_:=Ka ((by rw [hg];exact Nat.ne_of_lt (blk_lt (g:=qe) (o:=.cells #[.int .i64 qk,.int .i64 qh] 30 (0,0)) (by(with_reducible repeat(first|refine blk_drewN ?_ _|refine blk_drew ?_|refine blk_alloc ?_ _));exact qa.out)):qe≠qj));have n8_:=Ka ((by rw [hg];exact Nat.ne_of_gt (blk_lt (g:=qe) (o:=.cells #[.int .i64 qk,.int .i64 qh] 30 (0,0)) (by(with_reducible repeat(first|refine blk_drewN ?_ _|refine blk_drew ?_|refine blk_alloc ?_ _));exact qa.out)):qj≠qe));have n9_:=Ka ((by rw [hg];exact Nat.ne_of_lt (blk_lt (g:=qg) (o:=.cells #[.int .i64 3,.int .i64 (qd.length:Int)] 30 (0,0)) (by(with_reducible repeat(first|refine blk_drewN ?_ _|refine blk_drew ?_|refine blk_alloc ?_ _));exact qb.out)):qg≠qj));have n10_:=Ka ((by rw [hg];exact Nat.ne_of_gt (blk_lt (g:=qg) (o:=.cells #[.int .i64 3,.int .i64 (qd.length:Int)] 30 (0,0)) (by(with_reducible repeat(first|refine blk_drewN ?_ _|refine blk_drew ?_|refine blk_alloc ?_ _));exact qb.out)):qj≠qg));clear qi;clear qa;clear qb;clear HB;have qi:=qs;have qa:=qt;have qb:=qu;have HB:=qx;have qc:=yc;have GW191:=yt;have qv:=n6_;have qo:=n7_;have ya:=n8_;have qz:=n9_;have yd:=n10_;clear qs qt qu qx yc yt n6_ n7_ n8_ n9_ n10_;clear hb hbox hg;have hnb50:=ya.out;have hnc50:=qo.out;have hnb51:=yd.out;have hnc51:=qz.out;have hcz52_0:w49.cell? ⟨qj,0,none⟩=some (.int .i64 0):=(blk_cell qc.out 0).trans rfl;have hcz52_1:w49.cell? ⟨qj,1,none⟩=some (.int .i64 0):=(blk_cell qc.out 1).trans rfl;have hcz52_2:w49.cell? ⟨qj,2,none⟩=some (.string (⟨#[]⟩:ByteArray)):=(blk_cell qc.out 2).trans rfl;have hfz52_0:=blk_frozen qc.out 0;have hfz52_1:=blk_frozen qc.out 1;have hfz52_2:=blk_frozen qc.out 2)|((with_reducible refine gate_callee (f:=31) rfl ?_);refine goesL_ (some 74) rfl rfl Tryd.func31 (by kernel_rfl) rfl #[.string (ye.extract 0 12)] rfl (by(try simp only [List.map_toArray,List.map_cons,List.map_nil]);first|done|rfl|(simp only [List.length_drop,List.length_take];rfl)) ?_;(with_reducible refine(spec_l12Read.calls kj29 (ye.extract 0 12) qr t193 _ A45.out).mono ?_);rintro e w53 ⟨rfl,hb⟩;refine⟨_,rfl,?_⟩;have qs:=Ka (Kd.R_below (by(with_reducible repeat(first|apply Kd.R_alloc|apply Kd.R_drewN|apply Kd.R_drew));exact(Kd.R_mono (Kd.R_far (p:=⟨qj,2,none⟩) (Kd.R_far (p:=⟨qj,1,none⟩) (Kd.R_far (p:=⟨qj,0,none⟩) (Kd.R_mono qi.out (fun k_ hk=>(⟨hk,hk.2⟩:_∧k_≠qj))) (fun _ hk=>hk.2) (.int .i64 0)) (fun _ hk=>hk.2) (.int .i64 0)) (fun _ hk=>hk.2) (.string (⟨#[]⟩:ByteArray))) (fun _ h_=>h_.1))) hb);have qt:=Ka (blk_below (g:=qe) (o:=.cells #[.int .i64 qk,.int .i64 qh] 30 (0,0)) (by(with_reducible repeat(first|refine blk_drewN ?_ _|refine blk_drew ?_|refine blk_alloc ?_ _));refine blk_far ?_ qo.out _;(with_reducible repeat(first|refine blk_drewN ?_ _|refine blk_drew ?_|refine blk_alloc ?_ _));refine blk_far ?_ qo.out _;(with_reducible repeat(first|refine blk_drewN ?_ _|refine blk_drew ?_|refine blk_alloc ?_ _));refine blk_far ?_ qo.out _;(with_reducible repeat(first|refine blk_drewN ?_ _|refine blk_drew ?_|refine blk_alloc ?_ _));exact qa.out) hb);have qu:=Ka (blk_below (g:=qg) (o:=.cells #[.int .i64 3,.int .i64 (qd.length:Int)] 30 (0,0)) (by(with_reducible repeat(first|refine blk_drewN ?_ _|refine blk_drew ?_|refine blk_alloc ?_ _));refine blk_far ?_ qz.out _;(with_reducible repeat(first|refine blk_drewN ?_ _|refine blk_drew ?_|refine blk_alloc ?_ _));refine blk_far ?_ qz.out _;(with_reducible repeat(first|refine blk_drewN ?_ _|refine blk_drew ?_|refine blk_alloc ?_ _));refine blk_far ?_ qz.out _;(with_reducible repeat(first|refine blk_drewN ?_ _|refine blk_drew ?_|refine blk_alloc ?_ _));exact qb.out) hb);have qx:=Ka (blk_below (g:=qj) (o:=.cells #[.int .i64 0,.int .i64 0,.string (⟨#[]⟩:ByteArray)] 40 (0,0)) (by(with_reducible repeat(first|refine blk_drewN ?_ _|refine blk_drew ?_|refine blk_alloc ?_ _));refine blk_put (cs:=#[.int .i64 0,.int .i64 0,.string (⟨#[]⟩:ByteArray)]) ?_ 2 _ rfl;(with_reducible repeat(first|refine blk_drewN ?_ _|refine blk_drew ?_|refine blk_alloc ?_ _));refine blk_put (cs:=#[.int .i64 0,.int .i64 0,.string (⟨#[]⟩:ByteArray)]) ?_ 1 _ rfl;(with_reducible repeat(first|refine blk_drewN ?_ _|refine blk_drew ?_|refine blk_alloc ?_ _));refine blk_put (cs:=#[.int .i64 0,.int .i64 0,.string (⟨#[]⟩:ByteArray)]) ?_ 0 _ rfl;(with_reducible repeat(first|refine blk_drewN ?_ _|refine blk_drew ?_|refine blk_alloc ?_ _));exact qc.out) hb);have yc:=Ka (below_step (by repeat(first|(with_reducible first|exact HB.out|apply below_alloc|apply pw_below_drewN|apply below_drew1|refine below_set ?_ qm.out|refine below_set ?_ qn.out|refine below_set ?_ qv.out)|exact HB.out)) hb);clear qi;clear qa;clear qb;clear qc;clear HB;have qi:=qs;have qa:=qt;have qb:=qu;have qc:=qx;have HB:=yc;clear qs qt qu qx yc;(try clear hb);(try clear hb2);(try clear hk);(try clear hi);have hcz54_0:w53.cell? ⟨qj,0,none⟩=some (.int .i64 0):=(blk_cell qc.out 0).trans rfl;have hcz54_1:w53.cell? ⟨qj,1,none⟩=some (.int .i64 0):=(blk_cell qc.out 1).trans rfl;have hcz54_2:w53.cell? ⟨qj,2,none⟩=some (.string (⟨#[]⟩:ByteArray)):=(blk_cell qc.out 2).trans rfl;have hfz54_0:=blk_frozen qc.out 0;have hfz54_1:=blk_frozen qc.out 1;have hfz54_2:=blk_frozen qc.out 2)|((with_reducible refine gate_callee (f:=31) rfl ?_);refine goesL_ (some 81) rfl rfl Tryd.func31 (by kernel_rfl) rfl #[.string (ye.extract 17 ye.size)] rfl (by(try simp only [List.map_toArray,List.map_cons,List.map_nil]);first|done|rfl|(simp only [List.length_drop,List.length_take];rfl)) ?_;(with_reducible refine(spec_l12Read.calls kj29 (ye.extract 17 ye.size) qy t195 _ A47.out).mono ?_);rintro e w55 ⟨rfl,hb⟩;refine⟨_,rfl,?_⟩;have qs:=Ka (Kd.R_below (by(with_reducible repeat(first|apply Kd.R_alloc|apply Kd.R_drewN|apply Kd.R_drew));exact(Kd.R_mono (Kd.R_far (p:=⟨qj,0,none⟩) (Kd.R_mono qi.out (fun k_ hk=>(⟨hk,hk.2⟩:_∧k_≠qj))) (fun _ hk=>hk.2) (.int .i64 qr)) (fun _ h_=>h_.1))) hb);have qt:=Ka (blk_below (g:=qe) (o:=.cells #[.int .i64 qk,.int .i64 qh] 30 (0,0)) (by(with_reducible repeat(first|refine blk_drewN ?_ _|refine blk_drew ?_|refine blk_alloc ?_ _));refine blk_far ?_ qo.out _;(with_reducible repeat(first|refine blk_drewN ?_ _|refine blk_drew ?_|refine blk_alloc ?_ _));exact qa.out) hb);have qu:=Ka (blk_below (g:=qg) (o:=.cells #[.int .i64 3,.int .i64 (qd.length:Int)] 30 (0,0)) (by(with_reducible repeat(first|refine blk_drewN ?_ _|refine blk_drew ?_|refine blk_alloc ?_ _));refine blk_far ?_ qz.out _;(with_reducible repeat(first|refine blk_drewN ?_ _|refine blk_drew ?_|refine blk_alloc ?_ _));exact qb.out) hb);have qx:=Ka (blk_below (g:=qj) (o:=.cells #[.int .i64 qr,.int .i64 0,.string (⟨#[]⟩:ByteArray)] 40 (0,0)) (by(with_reducible repeat(first|refine blk_drewN ?_ _|refine blk_drew ?_|refine blk_alloc ?_ _));refine blk_put (cs:=#[.int .i64 0,.int .i64 0,.string (⟨#[]⟩:ByteArray)]) ?_ 0 _ rfl;(with_reducible repeat(first|refine blk_drewN ?_ _|refine blk_drew ?_|refine blk_alloc ?_ _));exact qc.out) hb);have yc:=Ka (below_step (by repeat(first|(with_reducible first|exact HB.out|apply below_alloc|apply pw_below_drewN|apply below_drew1|refine below_set ?_ qm.out|refine below_set ?_ qn.out|refine below_set ?_ qv.out)|exact HB.out)) hb);clear qi;clear qa;clear qb;clear qc;clear HB;have qi:=qs;have qa:=qt;have qb:=qu;have qc:=qx;have HB:=yc;clear qs qt qu qx yc;(try clear hb);(try clear hb2);(try clear hk);(try clear hi);have hcz56_0:w55.cell? ⟨qj,0,none⟩=some (.int .i64 qr):=(blk_cell qc.out 0).trans rfl;have hcz56_1:w55.cell? ⟨qj,1,none⟩=some (.int .i64 0):=(blk_cell qc.out 1).trans rfl;have hcz56_2:w55.cell? ⟨qj,2,none⟩=some (.string (⟨#[]⟩:ByteArray)):=(blk_cell qc.out 2).trans rfl;have hfz56_0:=blk_frozen qc.out 0;have hfz56_1:=blk_frozen qc.out 1;have hfz56_2:=blk_frozen qc.out 2))
           (try simp only [Act.put,List.setIfInBounds_toArray,List.set_cons_zero,List.set_cons_succ])
           go_cut [90] (fun v90 wc=>∃ (kq:Nat) (x90_47:Bool),v90=.bool x90_47∧Aside0 (spec_ReadTitles.j3 kq a0 qd (qd.length:Int) qw x90_47 3 (qd.length:Int) qr qy (⟨#[]⟩:ByteArray)=some (r1,r2,r3))∧Aside0 (kq≤kj29)∧Aside0 (Kd.R k40 40 wc w.heap.size (fun k_=>k_≠qj) (.slice yh qd.length yj) qd)∧Aside0 (wc.heap[qe]? = some (.cells #[.int .i64 qk,.int .i64 qh] 30 (0,0)))∧Aside0 (wc.heap[qg]? = some (.cells #[.int .i64 3,.int .i64 (qd.length:Int)] 30 (0,0)))∧Aside0 (wc.heap[qj]? = some (.cells #[.int .i64 qr,.int .i64 qy,.string (⟨#[]⟩:ByteArray)] 40 (0,0)))∧Aside0 (Below w.heap.size w wc))
           case first=>
            have H:=HC48.out
            clear HC48
            by_cases c57:t193=true
            ·subst c57
             rw[if_pos rfl] at H
             have H':=Ka H
             clear H
             go_wp2
             go_meet
             case rel=>exact⟨_,(!t195),(by first|rfl|(simp;done)|(simp [*];done)),H',⟨by have:=HK1.out;have:=yi.out;have:=yq.out;first|omega|exact Nat.le_refl _⟩,⟨by(with_reducible repeat(first|apply Kd.R_alloc|apply Kd.R_drewN|apply Kd.R_drew));exact Kd.R_mono (Kd.R_far (p:=⟨qj,1,none⟩) (Kd.R_mono qi.out (fun k_ hk=>(⟨hk,hk.2⟩:_∧k_≠qj))) (fun _ hk=>hk.2) (.int .i64 qy)) (fun _ hk=>hk.1.2)⟩,⟨by(with_reducible repeat(first|refine blk_drewN ?_ _|refine blk_drew ?_|refine blk_alloc ?_ _));refine blk_far ?_ qo.out _;(with_reducible repeat(first|refine blk_drewN ?_ _|refine blk_drew ?_|refine blk_alloc ?_ _));exact qa.out⟩,⟨by(with_reducible repeat(first|refine blk_drewN ?_ _|refine blk_drew ?_|refine blk_alloc ?_ _));refine blk_far ?_ qz.out _;(with_reducible repeat(first|refine blk_drewN ?_ _|refine blk_drew ?_|refine blk_alloc ?_ _));exact qb.out⟩,⟨by(with_reducible repeat(first|refine blk_drewN ?_ _|refine blk_drew ?_|refine blk_alloc ?_ _));refine blk_put (cs:=#[.int .i64 qr,.int .i64 0,.string (⟨#[]⟩:ByteArray)]) ?_ 1 _ rfl;(with_reducible repeat(first|refine blk_drewN ?_ _|refine blk_drew ?_|refine blk_alloc ?_ _));exact qc.out⟩,⟨by repeat(first|(with_reducible first|exact HB.out|apply below_alloc|apply pw_below_drewN|apply below_drew1|refine below_set ?_ qm.out|refine below_set ?_ qn.out|refine below_set ?_ qv.out)|exact HB.out)⟩⟩
            ·replace c57:=Bool.eq_false_iff.mpr c57
             subst c57
             have H1:(spec_ReadTitles.j3 kj29 a0 qd (qd.length:Int) qw true 3 (qd.length:Int) qr qy (⟨#[]⟩:ByteArray))=some (r1,r2,r3):=by rw [if_neg (show ¬ (false=true) by decide)] at H;exact H
             clear H
             have H:=H1
             clear H1
             have H':=Ka H
             clear H
             go_wp2
             go_meet
             case rel=>exact⟨_,(true),(by first|rfl|(simp;done)|(simp [*];done)),H',⟨by have:=HK1.out;have:=yi.out;have:=yq.out;first|omega|exact Nat.le_refl _⟩,⟨by(with_reducible repeat(first|apply Kd.R_alloc|apply Kd.R_drewN|apply Kd.R_drew));exact Kd.R_mono (Kd.R_far (p:=⟨qj,1,none⟩) (Kd.R_mono qi.out (fun k_ hk=>(⟨hk,hk.2⟩:_∧k_≠qj))) (fun _ hk=>hk.2) (.int .i64 qy)) (fun _ hk=>hk.1.2)⟩,⟨by(with_reducible repeat(first|refine blk_drewN ?_ _|refine blk_drew ?_|refine blk_alloc ?_ _));refine blk_far ?_ qo.out _;(with_reducible repeat(first|refine blk_drewN ?_ _|refine blk_drew ?_|refine blk_alloc ?_ _));exact qa.out⟩,⟨by(with_reducible repeat(first|refine blk_drewN ?_ _|refine blk_drew ?_|refine blk_alloc ?_ _));refine blk_far ?_ qz.out _;(with_reducible repeat(first|refine blk_drewN ?_ _|refine blk_drew ?_|refine blk_alloc ?_ _));exact qb.out⟩,⟨by(with_reducible repeat(first|refine blk_drewN ?_ _|refine blk_drew ?_|refine blk_alloc ?_ _));refine blk_put (cs:=#[.int .i64 qr,.int .i64 0,.string (⟨#[]⟩:ByteArray)]) ?_ 1 _ rfl;(with_reducible repeat(first|refine blk_drewN ?_ _|refine blk_drew ?_|refine blk_alloc ?_ _));exact qc.out⟩,⟨by repeat(first|(with_reducible first|exact HB.out|apply below_alloc|apply pw_below_drewN|apply below_drew1|refine below_set ?_ qm.out|refine below_set ?_ qn.out|refine below_set ?_ qv.out)|exact HB.out)⟩⟩
           case rest=>
            clear HC48;try clear c1;try clear c2;try clear c2b0;try clear c2b1;try clear p2;try clear c3;try clear c4;try clear c5;try clear p6;try clear c10;try clear c10b0;try clear c11;try clear c15;try clear c17;try clear c20;try clear c21;try clear c30;try clear c31;try clear c33;try clear c34;try clear yr;try clear c34b1;try clear c35;try clear c35b0;try clear c35b1;try clear c36;try clear c36b0;try clear c36b1;try clear c37;try clear c43;try clear c43b0;try clear c43b1;try clear c44;try clear c44b0;try clear c44b1;try clear c46;try clear c46b0;try clear c46b1;try clear c50;try clear c51;try clear c57;try clear hcz16_0;try clear hcz16_1;try clear hcz22_0;try clear hcz22_1;try clear hcz32_0;try clear hcz32_1;try clear hcz52_0;try clear hcz52_1;try clear hcz52_2;try clear hcz54_0;try clear hcz54_1;try clear hcz54_2;try clear hcz56_0;try clear hcz56_1;try clear hcz56_2;try clear hcz6_0;try clear hcz6_1;try clear hfz16_0;try clear hfz16_1;try clear hfz22_0;try clear hfz22_1;try clear hfz32_0;try clear hfz32_1;try clear hfz52_0;try clear hfz52_1;try clear hfz52_2;try clear hfz54_0;try clear hfz54_1;try clear hfz54_2;try clear hfz56_0;try clear hfz56_1;try clear hfz56_2;try clear hfz6_0;try clear hfz6_1;try clear p2;try clear p6
            obtain⟨kq,x90_47,rfl,HA,HJ47,qi,qa,qb,qc,HB⟩:=hcut
            cases kq with
            | zero => exact absurd HA.out (by simp [spec_ReadTitles.j3])
            | succ kj47 =>
             have H:=HA.out
             clear HA
             simp only [spec_ReadTitles.j3] at H
             by_cases c58:x90_47=true
             ·subst c58
              rw[if_pos rfl] at H
              obtain⟨y196,hy196⟩:∃ y_:List (S40),y_=(([]:List (S40))):=⟨_,rfl⟩
              replace H:(some (y196,3,(qd.length:Int)))=some (r1,r2,r3):=by first|(rw [hy196];with_reducible exact H)|(have yf:=(Option.bind_some _ _).symm.trans H;rw [hy196];with_reducible exact yf)|(have yf:=(Option.bind_some _ _).symm.trans H;with_reducible exact yf)|with_reducible exact H|(rw [hy196];exact H)|exact H
              have Ny196:=Ka hy196
              clear hy196
              simp only [Option.some.injEq,Prod.mk.injEq] at H
              obtain⟨rfl,rfl,rfl⟩:=H
              try go_wp2
              have qs:=Ka (Kd.R_drew qi.out)
              have qt:=Ka (blk_drew qa.out)
              have qu:=Ka (blk_drew qb.out)
              have qx:=Ka (blk_drew qc.out)
              have yc:=Ka (below_drew1 HB.out)
              clear qi qa
              clear qb qc
              clear HB
              have qi:=qs
              have qa:=qt
              have qb:=qu
              have qc:=qx
              have HB:=yc
              clear qs qt qu qx yc
              refine start_ (n:=4) (S:=fun w'=>w'.cell? ⟨qg,0,none⟩=some (.int .i64 3)∧w'.cell? ⟨qg,1,none⟩=some (.int .i64 (qd.length:Int))) (ds:=[]) #[false,false,false,false] (by kernel_rfl) rfl rfl ⟨(blk_cell qb.out 0).trans rfl,(blk_cell qb.out 1).trans rfl⟩ (fun hHeld=>?_)
              generalize wc.drew=w59 at qi qa qb qc HB hHeld ⊢
              refine take_ (i:=1) (N:=some 92) (v:=?_) (a':=?_) (bm 4 2) rfl rfl (by kernel_rfl) (fun _ _ _ h=>h) (Or.inl ⟨by rfl,?_⟩) hHeld ?_ ?_;rotate_left;(rintro w' ⟨s0,s1⟩;go_simp;with_reducible rfl);rotate_left;(simp only[pw];rfl)
              refine one_ (i:=0) (N:=some 91) (bm 4 3) rfl rfl (by kernel_rfl) (by decide) (fun K hK=>?_)
              refine Kd.R_lit_step k40 _ 40 ?hg (N:=91) ?hd (xs:=([]:List (S40))) (inner:=[]) (ok:=fun _=>True) (okp:=fun _=>True) ?hr ?hp (fun _ hk=>hk) trivial (Below.refl _ _) (Nat.le_refl _) (by simp) ?_;(case hd=>rfl);(case hg=>rfl);(case hr=>first|(go_simp;done)|(go_simp;rfl));(case hp=>exact(Reps.none _ _))
              intro v197 w60 ho61 hb hg_ hnew_
              clear hg_ hnew_
              (first|rw [← Ny196.out] at ho61|(simp only [Int.reduceToNat] at ho61;rw [← Ny196.out] at ho61))
              have qs:=Ka (Kd.R_elder' (by(with_reducible repeat(first|apply Kd.R_alloc|apply Kd.R_drewN|apply Kd.R_drew));exact qi.out) (Kd.R_base ho61) hb)
              have qt:=Ka (Kd.R_lower (Kd.R_newB (Kd.R_new' ho61 (Kd.R_lt (by(with_reducible repeat(first|apply Kd.R_alloc|apply Kd.R_drewN|apply Kd.R_drew));exact qi.out))) (g:=qj) (o:=.cells #[.int .i64 qr,.int .i64 qy,.string (⟨#[]⟩:ByteArray)] 40 (0,0)) (by(with_reducible repeat(first|refine blk_drewN ?_ _|refine blk_drew ?_|refine blk_alloc ?_ _));exact qc.out)) (below_size (by repeat(first|(with_reducible first|exact HB.out|apply below_alloc|apply pw_below_drewN|apply below_drew1|refine below_set ?_ qm.out|refine below_set ?_ qn.out|refine below_set ?_ qv.out)|exact HB.out))))
              have qu:=Ka (blk_below (g:=qe) (o:=.cells #[.int .i64 qk,.int .i64 qh] 30 (0,0)) (by(with_reducible repeat(first|refine blk_drewN ?_ _|refine blk_drew ?_|refine blk_alloc ?_ _));exact qa.out) hb)
              have qx:=Ka (blk_below (g:=qg) (o:=.cells #[.int .i64 3,.int .i64 (qd.length:Int)] 30 (0,0)) (by(with_reducible repeat(first|refine blk_drewN ?_ _|refine blk_drew ?_|refine blk_alloc ?_ _));exact qb.out) hb)
              have yc:=Ka (blk_below (g:=qj) (o:=.cells #[.int .i64 qr,.int .i64 qy,.string (⟨#[]⟩:ByteArray)] 40 (0,0)) (by(with_reducible repeat(first|refine blk_drewN ?_ _|refine blk_drew ?_|refine blk_alloc ?_ _));exact qc.out) hb)
              have yt:=Ka (below_step (by repeat(first|(with_reducible first|exact HB.out|apply below_alloc|apply pw_below_drewN|apply below_drew1|refine below_set ?_ qm.out|refine below_set ?_ qn.out|refine below_set ?_ qv.out)|exact HB.out)) hb)
              clear qi qa
              clear qb qc
              clear HB
              have qi:=qs
              have HO198:=qt
              have qa:=qu
              have qb:=qx
              have qc:=yc
              have HB:=yt
              clear qs qt qu qx yc yt
              clear hb ho61
              refine hK.out _ _ ⟨(blk_cell qb.out 0).trans rfl,(blk_cell qb.out 1).trans rfl⟩ (fun hHeld=>?_)
              clear hK K
              refine norm_ (a':=?_) ?_ ?_;rotate_left;(show Act.put _ (some 91) _=_;simp only[pw];rfl)
              refine pure_ (i:=2) (N:=some 2) (v:=?_) (a':=?_) (bm 4 7) rfl rfl (by kernel_rfl) (fun _ _ _ h=>h) (Or.inl ⟨by rfl,?_⟩) ?_ ?_;rotate_left;(intro w';go_simp;with_reducible rfl);rotate_left;(simp only[pw];rfl)
              refine one_ (i:=3) (N:=none) (bm 4 15) rfl rfl (by kernel_rfl) (by decide) (fun K hK=>?_)
              have hs62:w60.cell? ⟨qe,0,none⟩=some (.int .i64 qk):=(blk_cell qa.out 0).trans rfl
              have hfs62:=blk_frozen qa.out 0
              have hns62_1:=qf.out
              have hns62_2:=ya.out
              have hms62_1:=ql.out
              have hms62_2:=qo.out
              have hs63:w60.cell? ⟨qe,1,none⟩=some (.int .i64 qh):=(blk_cell qa.out 1).trans rfl
              have hfs63:=blk_frozen qa.out 1
              have hns63_1:=qf.out
              have hns63_2:=ya.out
              have hms63_1:=ql.out
              have hms63_2:=qo.out
              refine skip_ (w1:=?_) (by rfl) rfl ?_ ?_
              rotate_left
              ·go_simp
               rfl
              refine hK.out _ _ ⟨((cell_far (p:=⟨qe,_,none⟩) qf.out _).trans (((cell_far (p:=⟨qe,_,none⟩) qf.out _).trans (hHeld.1)))),((cell_far (p:=⟨qe,_,none⟩) qf.out _).trans (((cell_far (p:=⟨qe,_,none⟩) qf.out _).trans (hHeld.2))))⟩ (fun hHeld=>?_)
              clear hK K
              refine done_ (by kernel_rfl) ?_
              try go_wp2
              refine bodyPost_ret (results_tc rfl _ _ qe 30 #[.int .i64 3,.int .i64 (qd.length:Int)] (0,0) _ rfl (by(with_reducible repeat(first|refine blk_drewN ?_ _|refine blk_drew ?_|refine blk_alloc ?_ _));refine blk_put (cs:=#[.int .i64 3,.int .i64 qh]) ?_ 1 _ rfl;(with_reducible repeat(first|refine blk_drewN ?_ _|refine blk_drew ?_|refine blk_alloc ?_ _));refine blk_put (cs:=#[.int .i64 qk,.int .i64 qh]) ?_ 0 _ rfl;(with_reducible repeat(first|refine blk_drewN ?_ _|refine blk_drew ?_|refine blk_alloc ?_ _));exact qa.out) Tryd.underlying30 rfl (by kernel_rfl)) rfl ?_
              exact⟨_,by first|rfl|(simp [errW_none,errW_some] <;> rfl)|(simp [*,errW_none,errW_some] <;> rfl),by(with_reducible repeat(first|apply Kd.R_alloc|apply Kd.R_drewN|apply Kd.R_drew));exact Kd.R_mono (Kd.R_far (p:=⟨qe,1,none⟩) (Kd.R_far (p:=⟨qe,0,none⟩) (Kd.R_types HO198.out qa.out (by decide)) (fun _ hk=>hk.2) (.int .i64 3)) (fun _ hk=>hk.2) (.int .i64 (qd.length:Int))) (fun _ hk=>trivial),by repeat(first|(with_reducible first|exact HB.out|apply below_alloc|apply pw_below_drewN|apply below_drew1|refine below_set ?_ qm.out|refine below_set ?_ qn.out|refine below_set ?_ qv.out)|exact HB.out)⟩
             ·replace c58:=Bool.eq_false_iff.mpr c58
              subst c58
              have H1:(if qr ≥ qy then (spec_ReadTitles.j4 kj47 a0 qd (qd.length:Int) qw true 4 (qd.length:Int) qr qy (⟨#[]⟩:ByteArray)) else (if (qd.length:Int) > 0 then (if 0≤(wrap64 ((qd.length:Int) - 1)) then (if (wrap64 ((qd.length:Int) - 1)) < (qd.length:Int) then (spec_ReadTitles.j4 kj47 a0 qd (qd.length:Int) qw (decide (qr < ((rd_T40 qd (wrap64 ((qd.length:Int) - 1))).f1))) 4 (qd.length:Int) qr qy (⟨#[]⟩:ByteArray)) else (none)) else (none)) else (spec_ReadTitles.j4 kj47 a0 qd (qd.length:Int) qw false 4 (qd.length:Int) qr qy (⟨#[]⟩:ByteArray))))=some (r1,r2,r3):=by rw [if_neg (show ¬ (false=true) by decide)] at H;exact H
              clear H
              have H:=H1
              clear H1
              have HC64:=Ka H
              clear H
              have hnb65:=qf.out
              have hnc65:=ql.out
              have hnb66:=qz.out
              have hnc66:=yd.out
              have hcz67_0:wc.cell? ⟨qg,0,none⟩=some (.int .i64 3):=(blk_cell qb.out 0).trans rfl
              have hcz67_1:wc.cell? ⟨qg,1,none⟩=some (.int .i64 (qd.length:Int)):=(blk_cell qb.out 1).trans rfl
              have hfz67_0:=blk_frozen qb.out 0
              have hfz67_1:=blk_frozen qb.out 1
              go_upto_region 24 with (fail)
              go_cut [113] (fun v113 wc=>∃ (kq:Nat) (yo:Bool),v113=.bool yo∧Aside0 (spec_ReadTitles.j4 kq a0 qd (qd.length:Int) qw yo 4 (qd.length:Int) qr qy (⟨#[]⟩:ByteArray)=some (r1,r2,r3))∧Aside0 (kq≤kj47)∧Aside0 (Kd.R k40 40 wc w.heap.size (fun k_=>k_≠qj) (.slice yh qd.length yj) qd)∧Aside0 (wc.heap[qe]? = some (.cells #[.int .i64 qk,.int .i64 qh] 30 (0,0)))∧Aside0 (wc.heap[qg]? = some (.cells #[.int .i64 4,.int .i64 (qd.length:Int)] 30 (0,0)))∧Aside0 (wc.heap[qj]? = some (.cells #[.int .i64 qr,.int .i64 qy,.string (⟨#[]⟩:ByteArray)] 40 (0,0)))∧Aside0 (Below w.heap.size w wc))
              case first=>
               have H:=HC64.out
               clear HC64
               by_cases c68:qr ≥ qy
               ·rw [if_pos c68] at H
                have yn:=decide_eq_true c68
                clear c68
                (first|rw [yn]|(simp only [i64_w,i32_w];rw [yn])|skip)
                have H':=Ka H
                clear H
                try go_wp2
                have qs:Aside0 (Kd.R k40 40 (wc.setCell ⟨qg,0,none⟩ (.int .i64 4)) w.heap.size (fun k_=>k_≠qj) (.slice yh qd.length yj) qd):=⟨by(with_reducible repeat(first|apply Kd.R_alloc|apply Kd.R_drewN|apply Kd.R_drew));exact Kd.R_mono (Kd.R_far (p:=⟨qg,0,none⟩) (Kd.R_types qi.out qb.out (by decide)) (fun _ hk=>hk.2) (.int .i64 4)) (fun _ hk=>hk.1)⟩
                have qt:Aside0 ((wc.setCell ⟨qg,0,none⟩ (.int .i64 4)).heap[qe]? = some (.cells #[.int .i64 qk,.int .i64 qh] 30 (0,0))):=⟨by(with_reducible repeat(first|refine blk_drewN ?_ _|refine blk_drew ?_|refine blk_alloc ?_ _));refine blk_far ?_ ql.out _;(with_reducible repeat(first|refine blk_drewN ?_ _|refine blk_drew ?_|refine blk_alloc ?_ _));exact qa.out⟩
                have qu:Aside0 ((wc.setCell ⟨qg,0,none⟩ (.int .i64 4)).heap[qg]? = some (.cells #[.int .i64 4,.int .i64 (qd.length:Int)] 30 (0,0))):=⟨by(with_reducible repeat(first|refine blk_drewN ?_ _|refine blk_drew ?_|refine blk_alloc ?_ _));refine blk_put (cs:=#[.int .i64 3,.int .i64 (qd.length:Int)]) ?_ 0 _ rfl;(with_reducible repeat(first|refine blk_drewN ?_ _|refine blk_drew ?_|refine blk_alloc ?_ _));exact qb.out⟩
                have qx:Aside0 ((wc.setCell ⟨qg,0,none⟩ (.int .i64 4)).heap[qj]? = some (.cells #[.int .i64 qr,.int .i64 qy,.string (⟨#[]⟩:ByteArray)] 40 (0,0))):=⟨by(with_reducible repeat(first|refine blk_drewN ?_ _|refine blk_drew ?_|refine blk_alloc ?_ _));refine blk_far ?_ yd.out _;(with_reducible repeat(first|refine blk_drewN ?_ _|refine blk_drew ?_|refine blk_alloc ?_ _));exact qc.out⟩
                have yc:Aside0 (Below w.heap.size w (wc.setCell ⟨qg,0,none⟩ (.int .i64 4))):=⟨by repeat(first|(with_reducible first|exact HB.out|apply below_alloc|apply pw_below_drewN|apply below_drew1|refine below_set ?_ qm.out|refine below_set ?_ qn.out|refine below_set ?_ qv.out)|exact HB.out)⟩
                (try clear qi)
                (try clear qa)
                (try clear qb)
                (try clear qc)
                (try clear HB)
                generalize (wc.setCell ⟨qg,0,none⟩ (.int .i64 4))=w69 at qs qt qu qx yc ⊢
                have qi:=qs
                have qa:=qt
                have qb:=qu
                have qc:=qx
                have HB:=yc
                clear qs qt qu qx yc
                have qs:=Ka (Kd.R_drew qi.out)
                have qt:=Ka (blk_drew qa.out)
                have qu:=Ka (blk_drew qb.out)
                have qx:=Ka (blk_drew qc.out)
                have yc:=Ka (below_drew1 HB.out)
                clear qi qa
                clear qb qc
                clear HB
                have qi:=qs
                have qa:=qt
                have qb:=qu
                have qc:=qx
                have HB:=yc
                clear qs qt qu qx yc
                refine start_ (n:=20) (S:=fun w'=>w'.cell? ⟨qj,0,none⟩=some (.int .i64 qr)∧w'.cell? ⟨qj,1,none⟩=some (.int .i64 qy)∧w'.cell? ⟨qj,2,none⟩=some (.string (⟨#[]⟩:ByteArray))) (ds:=[]) #[false,false,false,false,false,false,false,false,false,false,false,false,false,false,false,false,false,false,false,false] (by kernel_rfl) rfl rfl ⟨(blk_cell qc.out 0).trans rfl,(blk_cell qc.out 1).trans rfl,(blk_cell qc.out 2).trans rfl⟩ (fun hHeld=>?_);refine with_tabW spec_ReadTitles.tab24 spec_ReadTitles.bits24 (fun HT_ HW_=>?_)
                generalize w69.drew=w70 at qi qa qb qc HB hHeld ⊢
                refine pz 0 94 (bm 20 1) HT_ ?_
                refine pz 2 96 (bm 20 5) HT_ ?_
                refine tz 1 95 (bm 20 7) HT_ HW_ hHeld rfl (by rintro w' ⟨s0,s1,s2⟩;go_simp;with_reducible rfl) ?_
                refine tz 3 97 (bm 20 15) HT_ HW_ hHeld rfl (by rintro w' ⟨s0,s1,s2⟩;go_simp;with_reducible rfl) ?_
                refine pz 4 98 (bm 20 31) HT_ ?_
                refine pz 5 99 (bm 20 63) HT_ ?_
                refine pd 6 100 (bm 20 127) HT_ ?_
                refine pd 7 101 (bm 20 255) HT_ ?_
                refine pd 8 102 (bm 20 511) HT_ ?_
                refine pd 9 103 (bm 20 1023) HT_ ?_
                refine pd 10 104 (bm 20 2047) HT_ ?_
                refine pd 11 105 (bm 20 4095) HT_ ?_
                refine pd 12 106 (bm 20 8191) HT_ ?_
                refine pd 13 107 (bm 20 16383) HT_ ?_
                refine pd 14 108 (bm 20 32767) HT_ ?_
                refine pd 15 109 (bm 20 65535) HT_ ?_
                refine pd 16 110 (bm 20 131071) HT_ ?_
                refine pd 17 111 (bm 20 262143) HT_ ?_
                refine pd 18 112 (bm 20 524287) HT_ ?_
                refine pz 19 113 (bm 20 1048575) HT_ ?_
                refine done_ (done_of HT_.out (by kernel_rfl)) ?_
                try go_wp2
                go_meet
                case rel=>exact⟨_,(true),(by first|rfl|(simp;done)|(simp [*];done)),H',⟨by have:=HK1.out;have:=yi.out;have:=yq.out;have:=HJ47.out;first|omega|exact Nat.le_refl _⟩,⟨by(with_reducible repeat(first|apply Kd.R_alloc|apply Kd.R_drewN|apply Kd.R_drew));exact qi.out⟩,⟨by(with_reducible repeat(first|refine blk_drewN ?_ _|refine blk_drew ?_|refine blk_alloc ?_ _));exact qa.out⟩,⟨by(with_reducible repeat(first|refine blk_drewN ?_ _|refine blk_drew ?_|refine blk_alloc ?_ _));exact qb.out⟩,⟨by(with_reducible repeat(first|refine blk_drewN ?_ _|refine blk_drew ?_|refine blk_alloc ?_ _));exact qc.out⟩,⟨by repeat(first|(with_reducible first|exact HB.out|apply below_alloc|apply pw_below_drewN|apply below_drew1|refine below_set ?_ qm.out|refine below_set ?_ qn.out|refine below_set ?_ qv.out)|exact HB.out)⟩⟩
               ·rw [if_neg c68] at H
                have yn:=decide_eq_false c68
                clear c68
                (first|rw [yn]|(simp only [i64_w,i32_w];rw [yn])|skip)
                by_cases c71:(qd.length:Int) > 0
                ·rw [if_pos c71] at H
                 have c71b0:=decide_eq_true c71
                 have c71b1:decide (0 < qd.length)=true:=decide_eq_true (by omega)
                 clear c71
                 obtain⟨yg,hji72⟩:∃ j_:Int,(wrap64 ((qd.length:Int) - 1))=j_:=⟨_,rfl⟩
                 replace H:(if 0≤(yg) then (if (yg) < (qd.length:Int) then (spec_ReadTitles.j4 kj47 a0 qd (qd.length:Int) qw (decide (qr < ((rd_T40 qd (yg)).f1))) 4 (qd.length:Int) qr qy (⟨#[]⟩:ByteArray)) else (none)) else (none))=some (r1,r2,r3):=by first|(rw [hji72] at H;exact H)|(simp only [hji72] at H ⊢;exact H)
                 have hji72w:(IntKind.i64.wrap ((qd.length:Int) - 1))=yg:=(i64_w _).trans hji72
                 by_cases c73:0≤(yg)
                 case neg=>rw[if_neg c73] at H;exact absurd H (by simp)
                 rw[if_pos c73] at H
                 have c73b0:=decide_eq_true c73
                 clear c73
                 by_cases c74:(yg) < (qd.length:Int)
                 case neg=>rw[if_neg c74] at H;exact absurd H (by simp)
                 rw[if_pos c74] at H
                 have c74b0:=decide_eq_true c74
                 clear c74
                 have H':=Ka H
                 clear H
                 try go_wp2
                 have qs:Aside0 (Kd.R k40 40 (wc.setCell ⟨qg,0,none⟩ (.int .i64 4)) w.heap.size (fun k_=>k_≠qj) (.slice yh qd.length yj) qd):=⟨by(with_reducible repeat(first|apply Kd.R_alloc|apply Kd.R_drewN|apply Kd.R_drew));exact Kd.R_mono (Kd.R_far (p:=⟨qg,0,none⟩) (Kd.R_types qi.out qb.out (by decide)) (fun _ hk=>hk.2) (.int .i64 4)) (fun _ hk=>hk.1)⟩
                 have qt:Aside0 ((wc.setCell ⟨qg,0,none⟩ (.int .i64 4)).heap[qe]? = some (.cells #[.int .i64 qk,.int .i64 qh] 30 (0,0))):=⟨by(with_reducible repeat(first|refine blk_drewN ?_ _|refine blk_drew ?_|refine blk_alloc ?_ _));refine blk_far ?_ ql.out _;(with_reducible repeat(first|refine blk_drewN ?_ _|refine blk_drew ?_|refine blk_alloc ?_ _));exact qa.out⟩
                 have qu:Aside0 ((wc.setCell ⟨qg,0,none⟩ (.int .i64 4)).heap[qg]? = some (.cells #[.int .i64 4,.int .i64 (qd.length:Int)] 30 (0,0))):=⟨by(with_reducible repeat(first|refine blk_drewN ?_ _|refine blk_drew ?_|refine blk_alloc ?_ _));refine blk_put (cs:=#[.int .i64 3,.int .i64 (qd.length:Int)]) ?_ 0 _ rfl;(with_reducible repeat(first|refine blk_drewN ?_ _|refine blk_drew ?_|refine blk_alloc ?_ _));exact qb.out⟩
                 have qx:Aside0 ((wc.setCell ⟨qg,0,none⟩ (.int .i64 4)).heap[qj]? = some (.cells #[.int .i64 qr,.int .i64 qy,.string (⟨#[]⟩:ByteArray)] 40 (0,0))):=⟨by(with_reducible repeat(first|refine blk_drewN ?_ _|refine blk_drew ?_|refine blk_alloc ?_ _));refine blk_far ?_ yd.out _;(with_reducible repeat(first|refine blk_drewN ?_ _|refine blk_drew ?_|refine blk_alloc ?_ _));exact qc.out⟩
                 have yc:Aside0 (Below w.heap.size w (wc.setCell ⟨qg,0,none⟩ (.int .i64 4))):=⟨by repeat(first|(with_reducible first|exact HB.out|apply below_alloc|apply pw_below_drewN|apply below_drew1|refine below_set ?_ qm.out|refine below_set ?_ qn.out|refine below_set ?_ qv.out)|exact HB.out)⟩
                 (try clear qi)
                 (try clear qa)
                 (try clear qb)
                 (try clear qc)
                 (try clear HB)
                 generalize (wc.setCell ⟨qg,0,none⟩ (.int .i64 4))=w75 at qs qt qu qx yc ⊢
                 have qi:=qs
                 have qa:=qt
                 have qb:=qu
                 have qc:=qx
                 have HB:=yc
                 clear qs qt qu qx yc
                 have qs:=Ka (Kd.R_drew qi.out)
                 have qt:=Ka (blk_drew qa.out)
                 have qu:=Ka (blk_drew qb.out)
                 have qx:=Ka (blk_drew qc.out)
                 have yc:=Ka (below_drew1 HB.out)
                 clear qi qa
                 clear qb qc
                 clear HB
                 have qi:=qs
                 have qa:=qt
                 have qb:=qu
                 have qc:=qx
                 have HB:=yc
                 clear qs qt qu qx yc
                 have p199:0≤((yg):Int):=of_decide_eq_true (by first|(with_reducible assumption)|assumption)
                 have q199:(yg) < (qd.length:Int):=of_decide_eq_true (by first|(with_reducible assumption)|assumption)
                 obtain⟨ad199,e199,yk,yl,ym⟩:=at_T40 (Kd.R_reads' qi.out).2.2 (yg) p199 q199
                 cases e199
                 replace p199:=eq_true p199
                 replace q199:=eq_true q199
                 refine start_ (n:=20) (S:=fun w'=>w'.cell? ⟨qj,0,none⟩=some (.int .i64 qr)∧w'.cell? ⟨qj,1,none⟩=some (.int .i64 qy)∧w'.cell? ⟨qj,2,none⟩=some (.string (⟨#[]⟩:ByteArray))∧w'.cell? (ad199.add (((yg)).toNat*3))=some (.int .i64 ((rd_T40 qd (yg)).f0))∧w'.cell? ⟨(ad199.add (((yg)).toNat*3)).block,(ad199.add (((yg)).toNat*3)).off+1,none⟩=some (.int .i64 ((rd_T40 qd (yg)).f1))∧w'.cell? ⟨(ad199.add (((yg)).toNat*3)).block,(ad199.add (((yg)).toNat*3)).off+2,none⟩=some (.string ((rd_T40 qd (yg)).f2))) (ds:=[]) #[false,false,false,false,false,false,false,false,false,false,false,false,false,false,false,false,false,false,false,false] (by kernel_rfl) rfl rfl ⟨(blk_cell qc.out 0).trans rfl,(blk_cell qc.out 1).trans rfl,(blk_cell qc.out 2).trans rfl,yk,yl,ym⟩ (fun hHeld=>?_);refine with_tabW spec_ReadTitles.tab24 spec_ReadTitles.bits24 (fun HT_ HW_=>?_)
                 generalize w75.drew=w76 at qi qa qb qc HB yk yl ym hHeld ⊢
                 refine pz 0 94 (bm 20 1) HT_ ?_
                 refine pz 2 96 (bm 20 5) HT_ ?_
                 refine tz 1 95 (bm 20 7) HT_ HW_ hHeld rfl (by rintro w' ⟨s0,s1,s2,s3,s4,s5⟩;go_simp;with_reducible rfl) ?_
                 refine tz 3 97 (bm 20 15) HT_ HW_ hHeld rfl (by rintro w' ⟨s0,s1,s2,s3,s4,s5⟩;go_simp;with_reducible rfl) ?_
                 refine pz 4 98 (bm 20 31) HT_ ?_
                 refine pz 5 99 (bm 20 63) HT_ ?_
                 refine pz 6 100 (bm 20 127) HT_ ?_
                 refine pz 7 101 (bm 20 255) HT_ ?_
                 refine pz 8 102 (bm 20 511) HT_ ?_
                 refine pz 9 103 (bm 20 1023) HT_ ?_
                 refine pz 11 105 (bm 20 3071) HT_ ?_
                 refine pz 12 106 (bm 20 7167) HT_ ?_
                 refine pz 13 107 (bm 20 15359) HT_ ?_
                 refine pz 14 108 (bm 20 31743) HT_ ?_
                 refine pz 15 109 (bm 20 64511) HT_ ?_
                 refine tz 10 104 (bm 20 65535) HT_ HW_ hHeld rfl (by rintro w' ⟨s0,s1,s2,s3,s4,s5⟩;go_simp;with_reducible rfl) ?_
                 refine tz 16 110 (bm 20 131071) HT_ HW_ hHeld rfl (by rintro w' ⟨s0,s1,s2,s3,s4,s5⟩;go_simp;with_reducible rfl) ?_
                 refine pz 17 111 (bm 20 262143) HT_ ?_
                 refine pz 18 112 (bm 20 524287) HT_ ?_
                 refine pz 19 113 (bm 20 1048575) HT_ ?_
                 refine done_ (done_of HT_.out (by kernel_rfl)) ?_
                 try go_wp2
                 go_meet
                 case rel=>exact⟨_,(decide (qr < ((rd_T40 qd (yg)).f1))),(by first|rfl|(simp;done)|(simp only [← hji72] <;> (first|rfl|simp))|(simp [*];done)),H',⟨by have:=HK1.out;have:=yi.out;have:=yq.out;have:=HJ47.out;first|omega|exact Nat.le_refl _⟩,⟨by(with_reducible repeat(first|apply Kd.R_alloc|apply Kd.R_drewN|apply Kd.R_drew));exact qi.out⟩,⟨by(with_reducible repeat(first|refine blk_drewN ?_ _|refine blk_drew ?_|refine blk_alloc ?_ _));exact qa.out⟩,⟨by(with_reducible repeat(first|refine blk_drewN ?_ _|refine blk_drew ?_|refine blk_alloc ?_ _));exact qb.out⟩,⟨by(with_reducible repeat(first|refine blk_drewN ?_ _|refine blk_drew ?_|refine blk_alloc ?_ _));exact qc.out⟩,⟨by repeat(first|(with_reducible first|exact HB.out|apply below_alloc|apply pw_below_drewN|apply below_drew1|refine below_set ?_ qm.out|refine below_set ?_ qn.out|refine below_set ?_ qv.out)|exact HB.out)⟩⟩
                ·rw [if_neg c71] at H
                 have c71b0:=decide_eq_false c71
                 have c71b1:decide (0 < qd.length)=false:=decide_eq_false (by omega)
                 clear c71
                 have H':=Ka H
                 clear H
                 try go_wp2
                 have qs:Aside0 (Kd.R k40 40 (wc.setCell ⟨qg,0,none⟩ (.int .i64 4)) w.heap.size (fun k_=>k_≠qj) (.slice yh qd.length yj) qd):=⟨by(with_reducible repeat(first|apply Kd.R_alloc|apply Kd.R_drewN|apply Kd.R_drew));exact Kd.R_mono (Kd.R_far (p:=⟨qg,0,none⟩) (Kd.R_types qi.out qb.out (by decide)) (fun _ hk=>hk.2) (.int .i64 4)) (fun _ hk=>hk.1)⟩
                 have qt:Aside0 ((wc.setCell ⟨qg,0,none⟩ (.int .i64 4)).heap[qe]? = some (.cells #[.int .i64 qk,.int .i64 qh] 30 (0,0))):=⟨by(with_reducible repeat(first|refine blk_drewN ?_ _|refine blk_drew ?_|refine blk_alloc ?_ _));refine blk_far ?_ ql.out _;(with_reducible repeat(first|refine blk_drewN ?_ _|refine blk_drew ?_|refine blk_alloc ?_ _));exact qa.out⟩
                 have qu:Aside0 ((wc.setCell ⟨qg,0,none⟩ (.int .i64 4)).heap[qg]? = some (.cells #[.int .i64 4,.int .i64 (qd.length:Int)] 30 (0,0))):=⟨by(with_reducible repeat(first|refine blk_drewN ?_ _|refine blk_drew ?_|refine blk_alloc ?_ _));refine blk_put (cs:=#[.int .i64 3,.int .i64 (qd.length:Int)]) ?_ 0 _ rfl;(with_reducible repeat(first|refine blk_drewN ?_ _|refine blk_drew ?_|refine blk_alloc ?_ _));exact qb.out⟩
                 have qx:Aside0 ((wc.setCell ⟨qg,0,none⟩ (.int .i64 4)).heap[qj]? = some (.cells #[.int .i64 qr,.int .i64 qy,.string (⟨#[]⟩:ByteArray)] 40 (0,0))):=⟨by(with_reducible repeat(first|refine blk_drewN ?_ _|refine blk_drew ?_|refine blk_alloc ?_ _));refine blk_far ?_ yd.out _;(with_reducible repeat(first|refine blk_drewN ?_ _|refine blk_drew ?_|refine blk_alloc ?_ _));exact qc.out⟩
                 have yc:Aside0 (Below w.heap.size w (wc.setCell ⟨qg,0,none⟩ (.int .i64 4))):=⟨by repeat(first|(with_reducible first|exact HB.out|apply below_alloc|apply pw_below_drewN|apply below_drew1|refine below_set ?_ qm.out|refine below_set ?_ qn.out|refine below_set ?_ qv.out)|exact HB.out)⟩
                 (try clear qi)
                 (try clear qa)
                 (try clear qb)
                 (try clear qc)
                 (try clear HB)
                 generalize (wc.setCell ⟨qg,0,none⟩ (.int .i64 4))=w77 at qs qt qu qx yc ⊢
                 have qi:=qs
                 have qa:=qt
                 have qb:=qu
                 have qc:=qx
                 have HB:=yc
                 clear qs qt qu qx yc
                 have qs:=Ka (Kd.R_drew qi.out)
                 have qt:=Ka (blk_drew qa.out)
                 have qu:=Ka (blk_drew qb.out)
                 have qx:=Ka (blk_drew qc.out)
                 have yc:=Ka (below_drew1 HB.out)
                 clear qi qa
                 clear qb qc
                 clear HB
                 have qi:=qs
                 have qa:=qt
                 have qb:=qu
                 have qc:=qx
                 have HB:=yc
                 clear qs qt qu qx yc
                 refine start_ (n:=20) (S:=fun w'=>w'.cell? ⟨qj,0,none⟩=some (.int .i64 qr)∧w'.cell? ⟨qj,1,none⟩=some (.int .i64 qy)∧w'.cell? ⟨qj,2,none⟩=some (.string (⟨#[]⟩:ByteArray))) (ds:=[]) #[false,false,false,false,false,false,false,false,false,false,false,false,false,false,false,false,false,false,false,false] (by kernel_rfl) rfl rfl ⟨(blk_cell qc.out 0).trans rfl,(blk_cell qc.out 1).trans rfl,(blk_cell qc.out 2).trans rfl⟩ (fun hHeld=>?_);refine with_tabW spec_ReadTitles.tab24 spec_ReadTitles.bits24 (fun HT_ HW_=>?_)
                 generalize w77.drew=w78 at qi qa qb qc HB hHeld ⊢
                 refine pz 0 94 (bm 20 1) HT_ ?_
                 refine pz 2 96 (bm 20 5) HT_ ?_
                 refine tz 1 95 (bm 20 7) HT_ HW_ hHeld rfl (by rintro w' ⟨s0,s1,s2⟩;go_simp;with_reducible rfl) ?_
                 refine tz 3 97 (bm 20 15) HT_ HW_ hHeld rfl (by rintro w' ⟨s0,s1,s2⟩;go_simp;with_reducible rfl) ?_
                 refine pz 4 98 (bm 20 31) HT_ ?_
                 refine pz 5 99 (bm 20 63) HT_ ?_
                 refine pz 6 100 (bm 20 127) HT_ ?_
                 refine pz 7 101 (bm 20 255) HT_ ?_
                 refine pz 8 102 (bm 20 511) HT_ ?_
                 refine pd 9 103 (bm 20 1023) HT_ ?_
                 refine pd 10 104 (bm 20 2047) HT_ ?_
                 refine pd 11 105 (bm 20 4095) HT_ ?_
                 refine pd 12 106 (bm 20 8191) HT_ ?_
                 refine pd 13 107 (bm 20 16383) HT_ ?_
                 refine pd 14 108 (bm 20 32767) HT_ ?_
                 refine pd 15 109 (bm 20 65535) HT_ ?_
                 refine pd 16 110 (bm 20 131071) HT_ ?_
                 refine pd 17 111 (bm 20 262143) HT_ ?_
                 refine pz 18 112 (bm 20 524287) HT_ ?_
                 refine pz 19 113 (bm 20 1048575) HT_ ?_
                 refine done_ (done_of HT_.out (by kernel_rfl)) ?_
                 try go_wp2
                 go_meet
                 case rel=>exact⟨_,(false),(by first|rfl|(simp;done)|(simp [*];done)),H',⟨by have:=HK1.out;have:=yi.out;have:=yq.out;have:=HJ47.out;first|omega|exact Nat.le_refl _⟩,⟨by(with_reducible repeat(first|apply Kd.R_alloc|apply Kd.R_drewN|apply Kd.R_drew));exact qi.out⟩,⟨by(with_reducible repeat(first|refine blk_drewN ?_ _|refine blk_drew ?_|refine blk_alloc ?_ _));exact qa.out⟩,⟨by(with_reducible repeat(first|refine blk_drewN ?_ _|refine blk_drew ?_|refine blk_alloc ?_ _));exact qb.out⟩,⟨by(with_reducible repeat(first|refine blk_drewN ?_ _|refine blk_drew ?_|refine blk_alloc ?_ _));exact qc.out⟩,⟨by repeat(first|(with_reducible first|exact HB.out|apply below_alloc|apply pw_below_drewN|apply below_drew1|refine below_set ?_ qm.out|refine below_set ?_ qn.out|refine below_set ?_ qv.out)|exact HB.out)⟩⟩
              case rest=>
               clear HC64;try clear p1;try clear q1;try clear hx1;try clear p2;try clear c5;try clear c6;try clear p6;try clear c7;try clear p19;try clear q19;try clear hx19;try clear c58;try clear p64;try clear c65;try clear c66;try clear c68;try clear yn;try clear c71;try clear c71b0;try clear c71b1;try clear c73;try clear c73b0;try clear c74;try clear c74b0;try clear hcz67_0;try clear hcz67_1;try clear hfz67_0;try clear hfz67_1;try clear yk;try clear yl;try clear ym;try clear p199;try clear q199
               obtain⟨kq,yo,rfl,HA,HJ63,qi,qa,qb,qc,HB⟩:=hcut
               cases kq with
               | zero => exact absurd HA.out (by simp [spec_ReadTitles.j4])
               | succ kj63 =>
                have H:=HA.out
                clear HA
                simp only [spec_ReadTitles.j4] at H
                by_cases c79:yo=true
                ·subst c79
                 rw[if_pos rfl] at H
                 obtain⟨y200,hy200⟩:∃ y_:List (S40),y_=(([]:List (S40))):=⟨_,rfl⟩
                 replace H:(some (y200,4,(qd.length:Int)))=some (r1,r2,r3):=by first|(rw [hy200];with_reducible exact H)|(have yf:=(Option.bind_some _ _).symm.trans H;rw [hy200];with_reducible exact yf)|(have yf:=(Option.bind_some _ _).symm.trans H;with_reducible exact yf)|with_reducible exact H|(rw [hy200];exact H)|exact H
                 have Ny200:=Ka hy200
                 clear hy200
                 simp only [Option.some.injEq,Prod.mk.injEq] at H
                 obtain⟨rfl,rfl,rfl⟩:=H
                 try go_wp2
                 have qs:=Ka (Kd.R_drew qi.out)
                 have qt:=Ka (blk_drew qa.out)
                 have qu:=Ka (blk_drew qb.out)
                 have qx:=Ka (blk_drew qc.out)
                 have yc:=Ka (below_drew1 HB.out)
                 clear qi qa
                 clear qb qc
                 clear HB
                 have qi:=qs
                 have qa:=qt
                 have qb:=qu
                 have qc:=qx
                 have HB:=yc
                 clear qs qt qu qx yc
                 refine start_ (n:=4) (S:=fun w'=>w'.cell? ⟨qg,0,none⟩=some (.int .i64 4)∧w'.cell? ⟨qg,1,none⟩=some (.int .i64 (qd.length:Int))) (ds:=[]) #[false,false,false,false] (by kernel_rfl) rfl rfl ⟨(blk_cell qb.out 0).trans rfl,(blk_cell qb.out 1).trans rfl⟩ (fun hHeld=>?_)
                 generalize wc.drew=w80 at qi qa qb qc HB hHeld ⊢
                 refine take_ (i:=1) (N:=some 115) (v:=?_) (a':=?_) (bm 4 2) rfl rfl (by kernel_rfl) (fun _ _ _ h=>h) (Or.inl ⟨by rfl,?_⟩) hHeld ?_ ?_;rotate_left;(rintro w' ⟨s0,s1⟩;go_simp;with_reducible rfl);rotate_left;(simp only[pw];rfl)
                 refine one_ (i:=0) (N:=some 114) (bm 4 3) rfl rfl (by kernel_rfl) (by decide) (fun K hK=>?_)
                 refine Kd.R_lit_step k40 _ 40 ?hg (N:=114) ?hd (xs:=([]:List (S40))) (inner:=[]) (ok:=fun _=>True) (okp:=fun _=>True) ?hr ?hp (fun _ hk=>hk) trivial (Below.refl _ _) (Nat.le_refl _) (by simp) ?_;(case hd=>rfl);(case hg=>rfl);(case hr=>first|(go_simp;done)|(go_simp;rfl));(case hp=>exact(Reps.none _ _))
                 intro v201 w81 ho82 hb hg_ hnew_
                 clear hg_ hnew_
                 (first|rw [← Ny200.out] at ho82|(simp only [Int.reduceToNat] at ho82;rw [← Ny200.out] at ho82))
                 have qs:=Ka (Kd.R_elder' (by(with_reducible repeat(first|apply Kd.R_alloc|apply Kd.R_drewN|apply Kd.R_drew));exact qi.out) (Kd.R_base ho82) hb)
                 have qt:=Ka (Kd.R_lower (Kd.R_newB (Kd.R_new' ho82 (Kd.R_lt (by(with_reducible repeat(first|apply Kd.R_alloc|apply Kd.R_drewN|apply Kd.R_drew));exact qi.out))) (g:=qj) (o:=.cells #[.int .i64 qr,.int .i64 qy,.string (⟨#[]⟩:ByteArray)] 40 (0,0)) (by(with_reducible repeat(first|refine blk_drewN ?_ _|refine blk_drew ?_|refine blk_alloc ?_ _));exact qc.out)) (below_size (by repeat(first|(with_reducible first|exact HB.out|apply below_alloc|apply pw_below_drewN|apply below_drew1|refine below_set ?_ qm.out|refine below_set ?_ qn.out|refine below_set ?_ qv.out)|exact HB.out))))
                 have qu:=Ka (blk_below (g:=qe) (o:=.cells #[.int .i64 qk,.int .i64 qh] 30 (0,0)) (by(with_reducible repeat(first|refine blk_drewN ?_ _|refine blk_drew ?_|refine blk_alloc ?_ _));exact qa.out) hb)
                 have qx:=Ka (blk_below (g:=qg) (o:=.cells #[.int .i64 4,.int .i64 (qd.length:Int)] 30 (0,0)) (by(with_reducible repeat(first|refine blk_drewN ?_ _|refine blk_drew ?_|refine blk_alloc ?_ _));exact qb.out) hb)
                 have yc:=Ka (blk_below (g:=qj) (o:=.cells #[.int .i64 qr,.int .i64 qy,.string (⟨#[]⟩:ByteArray)] 40 (0,0)) (by(with_reducible repeat(first|refine blk_drewN ?_ _|refine blk_drew ?_|refine blk_alloc ?_ _));exact qc.out) hb)
                 have yt:=Ka (below_step (by repeat(first|(with_reducible first|exact HB.out|apply below_alloc|apply pw_below_drewN|apply below_drew1|refine below_set ?_ qm.out|refine below_set ?_ qn.out|refine below_set ?_ qv.out)|exact HB.out)) hb)
                 clear qi qa
                 clear qb qc
                 clear HB
                 have qi:=qs
                 have HO202:=qt
                 have qa:=qu
                 have qb:=qx
                 have qc:=yc
                 have HB:=yt
                 clear qs qt qu qx yc yt
                 clear hb ho82
                 refine hK.out _ _ ⟨(blk_cell qb.out 0).trans rfl,(blk_cell qb.out 1).trans rfl⟩ (fun hHeld=>?_)
                 clear hK K
                 refine norm_ (a':=?_) ?_ ?_;rotate_left;(show Act.put _ (some 114) _=_;simp only[pw];rfl)
                 refine pure_ (i:=2) (N:=some 2) (v:=?_) (a':=?_) (bm 4 7) rfl rfl (by kernel_rfl) (fun _ _ _ h=>h) (Or.inl ⟨by rfl,?_⟩) ?_ ?_;rotate_left;(intro w';go_simp;with_reducible rfl);rotate_left;(simp only[pw];rfl)
                 refine one_ (i:=3) (N:=none) (bm 4 15) rfl rfl (by kernel_rfl) (by decide) (fun K hK=>?_)
                 have hs83:w81.cell? ⟨qe,0,none⟩=some (.int .i64 qk):=(blk_cell qa.out 0).trans rfl
                 have hfs83:=blk_frozen qa.out 0
                 have hns83_1:=qf.out
                 have hns83_2:=ya.out
                 have hms83_1:=ql.out
                 have hms83_2:=qo.out
                 have hs84:w81.cell? ⟨qe,1,none⟩=some (.int .i64 qh):=(blk_cell qa.out 1).trans rfl
                 have hfs84:=blk_frozen qa.out 1
                 have hns84_1:=qf.out
                 have hns84_2:=ya.out
                 have hms84_1:=ql.out
                 have hms84_2:=qo.out
                 refine skip_ (w1:=?_) (by rfl) rfl ?_ ?_
                 rotate_left
                 ·go_simp
                  rfl
                 refine hK.out _ _ ⟨((cell_far (p:=⟨qe,_,none⟩) qf.out _).trans (((cell_far (p:=⟨qe,_,none⟩) qf.out _).trans (hHeld.1)))),((cell_far (p:=⟨qe,_,none⟩) qf.out _).trans (((cell_far (p:=⟨qe,_,none⟩) qf.out _).trans (hHeld.2))))⟩ (fun hHeld=>?_)
                 clear hK K
                 refine done_ (by kernel_rfl) ?_
                 try go_wp2
                 refine bodyPost_ret (results_tc rfl _ _ qe 30 #[.int .i64 4,.int .i64 (qd.length:Int)] (0,0) _ rfl (by(with_reducible repeat(first|refine blk_drewN ?_ _|refine blk_drew ?_|refine blk_alloc ?_ _));refine blk_put (cs:=#[.int .i64 4,.int .i64 qh]) ?_ 1 _ rfl;(with_reducible repeat(first|refine blk_drewN ?_ _|refine blk_drew ?_|refine blk_alloc ?_ _));refine blk_put (cs:=#[.int .i64 qk,.int .i64 qh]) ?_ 0 _ rfl;(with_reducible repeat(first|refine blk_drewN ?_ _|refine blk_drew ?_|refine blk_alloc ?_ _));exact qa.out) Tryd.underlying30 rfl (by kernel_rfl)) rfl ?_
                 exact⟨_,by first|rfl|(simp [errW_none,errW_some] <;> rfl)|(simp [*,errW_none,errW_some] <;> rfl),by(with_reducible repeat(first|apply Kd.R_alloc|apply Kd.R_drewN|apply Kd.R_drew));exact Kd.R_mono (Kd.R_far (p:=⟨qe,1,none⟩) (Kd.R_far (p:=⟨qe,0,none⟩) (Kd.R_types HO202.out qa.out (by decide)) (fun _ hk=>hk.2) (.int .i64 4)) (fun _ hk=>hk.2) (.int .i64 (qd.length:Int))) (fun _ hk=>trivial),by repeat(first|(with_reducible first|exact HB.out|apply below_alloc|apply pw_below_drewN|apply below_drew1|refine below_set ?_ qm.out|refine below_set ?_ qn.out|refine below_set ?_ qv.out)|exact HB.out)⟩
                ·replace c79:=Bool.eq_false_iff.mpr c79
                 subst c79
                 have H1:(spec_ReadTitles.l1 kj63 a0 qd (qd.length:Int) qw qw 5 (qd.length:Int) qr qy (⟨#[]⟩:ByteArray))=some (r1,r2,r3):=by rw [if_neg (show ¬ (false=true) by decide)] at H;exact H
                 clear H
                 have H:=H1
                 clear H1
                 have H':=Ka H
                 clear H
                 have hnb85:=qf.out
                 have hnc85:=ql.out
                 have hnb86:=qz.out
                 have hnc86:=yd.out
                 have hcz87_0:wc.cell? ⟨qg,0,none⟩=some (.int .i64 4):=(blk_cell qb.out 0).trans rfl
                 have hcz87_1:wc.cell? ⟨qg,1,none⟩=some (.int .i64 (qd.length:Int)):=(blk_cell qb.out 1).trans rfl
                 have hfz87_0:=blk_frozen qb.out 0
                 have hfz87_1:=blk_frozen qb.out 1
                 go_wp2
                 go_loopg [9] kj63 (fun kq v9 w'=>∃ (yb:Int) (qq:Int) (qp:Int),v9=.int .i64 yb∧Aside0 (spec_ReadTitles.l1 kq a0 qd (qd.length:Int) yb qw 5 (qd.length:Int) qr qy (⟨#[]⟩:ByteArray)=some (r1,r2,r3))∧Aside0 (kq≤kj63)∧Aside0 (Kd.R k40 40 w' w.heap.size (fun k_=>k_≠qj) (.slice yh qd.length yj) qd)∧Aside0 (w'.heap[qe]? = some (.cells #[.int .i64 qq,.int .i64 qp] 30 (0,0)))∧Aside0 (w'.heap[qg]? = some (.cells #[.int .i64 5,.int .i64 (qd.length:Int)] 30 (0,0)))∧Aside0 (w'.heap[qj]? = some (.cells #[.int .i64 qr,.int .i64 qy,.string (⟨#[]⟩:ByteArray)] 40 (0,0)))∧Aside0 (Below w.heap.size w w'))
                 case atStart=>exact⟨(qw),(qk),(qh),(by first|rfl|(simp;done)|(simp [*];done)),H',⟨Nat.le_refl _⟩,⟨by(with_reducible repeat(first|apply Kd.R_alloc|apply Kd.R_drewN|apply Kd.R_drew));exact Kd.R_mono (Kd.R_far (p:=⟨qg,0,none⟩) (Kd.R_types qi.out qb.out (by decide)) (fun _ hk=>hk.2) (.int .i64 5)) (fun _ hk=>hk.1)⟩,⟨by(with_reducible repeat(first|refine blk_drewN ?_ _|refine blk_drew ?_|refine blk_alloc ?_ _));refine blk_far ?_ ql.out _;(with_reducible repeat(first|refine blk_drewN ?_ _|refine blk_drew ?_|refine blk_alloc ?_ _));exact qa.out⟩,⟨by(with_reducible repeat(first|refine blk_drewN ?_ _|refine blk_drew ?_|refine blk_alloc ?_ _));refine blk_put (cs:=#[.int .i64 4,.int .i64 (qd.length:Int)]) ?_ 0 _ rfl;(with_reducible repeat(first|refine blk_drewN ?_ _|refine blk_drew ?_|refine blk_alloc ?_ _));exact qb.out⟩,⟨by(with_reducible repeat(first|refine blk_drewN ?_ _|refine blk_drew ?_|refine blk_alloc ?_ _));refine blk_far ?_ yd.out _;(with_reducible repeat(first|refine blk_drewN ?_ _|refine blk_drew ?_|refine blk_alloc ?_ _));exact qc.out⟩,⟨by repeat(first|(with_reducible first|exact HB.out|apply below_alloc|apply pw_below_drewN|apply below_drew1|refine below_set ?_ qm.out|refine below_set ?_ qn.out|refine below_set ?_ qv.out)|exact HB.out)⟩⟩
                 case round=>
                  clear H';try clear p1;try clear q1;try clear hx1;try clear p2;try clear c5;try clear c6;try clear p6;try clear c7;try clear c8;try clear p19;try clear q19;try clear hx19;try clear c58;try clear p64;try clear c65;try clear c66;try clear c68;try clear yn;try clear c71;try clear c71b0;try clear c71b1;try clear c73;try clear c73b0;try clear c74;try clear c74b0;try clear c79;try clear c85;try clear c86;try clear hcz67_0;try clear hcz67_1;try clear hcz87_0;try clear hcz87_1;try clear hfz67_0;try clear hfz67_1;try clear hfz87_0;try clear hfz87_1;try clear yk;try clear yl;try clear ym;try clear p1;try clear p19;try clear p199;try clear p2;try clear p6;try clear p64;try clear q1;try clear q19;try clear q199
                  obtain⟨yb,qq,qp,rfl,HA,HK6,qi,qa,qb,qc,HB⟩:=hrel
                  cases gk with
                  | zero => exact absurd HA.out (by simp [spec_ReadTitles.l1])
                  | succ k6 =>
                   have H:=HA.out
                   clear HA
                   simp only [spec_ReadTitles.l1] at H
                   replace H:=Option.bind_eq_some_iff.mp H
                   obtain⟨⟨t203,t204,t205⟩,A880,H⟩:=H
                   try dsimp only at H
                   have A88:=Ka A880
                   clear A880
                   by_cases c89:t205=true
                   ·subst c89
                    rw[if_pos rfl] at H
                    by_cases c90:t203.toList=([]:List UInt8)
                    ·rw [if_pos c90] at H
                     have c90b0:(t203.toList == ([]:List UInt8))=true:=beq_iff_eq.mpr c90
                     have c90b1:(t203.toList != ([]:List UInt8))=false:=bne_eq_false_iff_eq.mpr c90
                     clear c90
                     have HC91:=Ka H
                     clear H
                     go_upto_region 33 with (first|((with_reducible refine gate_callee (f:=30) rfl ?_);refine goesL_ (some 121) rfl rfl Tryd.func30 (by kernel_rfl) rfl #[.string a0,.int .i64 yb] rfl (by(try simp only [List.map_toArray,List.map_cons,List.map_nil]);first|done|rfl|(simp only [List.length_drop,List.length_take];rfl)) ?_;(with_reducible refine(spec_l12Line.calls k6 a0 yb t203 t204 true _ A88.out).mono ?_);rintro e w' ⟨rfl,⟨nd,rfl⟩⟩;refine⟨_,rfl,?_⟩))
                     (try simp only [Act.put,List.setIfInBounds_toArray,List.set_cons_zero,List.set_cons_succ])
                     go_cut [143] (fun v143 wc=>∃ (kq:Nat) (yp:Bool),v143=.bool yp∧Aside0 (spec_ReadTitles.j6 kq a0 qd t204 (qd.length:Int) yb qw yp 5 (qd.length:Int) qr qy (⟨#[]⟩:ByteArray)=some (r1,r2,r3))∧Aside0 (kq≤k6)∧Aside0 (Kd.R k40 40 wc w.heap.size (fun k_=>k_≠qj) (.slice yh qd.length yj) qd)∧Aside0 (wc.heap[qe]? = some (.cells #[.int .i64 qq,.int .i64 qp] 30 (0,0)))∧Aside0 (wc.heap[qg]? = some (.cells #[.int .i64 5,.int .i64 (qd.length:Int)] 30 (0,0)))∧Aside0 (wc.heap[qj]? = some (.cells #[.int .i64 qr,.int .i64 qy,.string (⟨#[]⟩:ByteArray)] 40 (0,0)))∧Aside0 (Below w.heap.size w wc))
                     case first=>
                      have H:=HC91.out
                      clear HC91
                      by_cases c92:yb=qw
                      ·rw [if_pos c92] at H
                       have ys:(yb == qw)=true:=beq_iff_eq.mpr c92
                       have c92b1:(yb != qw)=false:=bne_eq_false_iff_eq.mpr c92
                       clear c92
                       (first|rw [ys]|(simp only [i64_w,i32_w];rw [ys])|skip)
                       have H':=Ka H
                       clear H
                       go_wp2
                       go_meet
                       case rel=>exact⟨_,(true),(by first|rfl|(simp;done)|(simp [*];done)),H',⟨by have:=HK1.out;have:=yi.out;have:=yq.out;have:=HJ47.out;have:=HJ63.out;have:=HK6.out;first|omega|exact Nat.le_refl _⟩,⟨by(with_reducible repeat(first|apply Kd.R_alloc|apply Kd.R_drewN|apply Kd.R_drew));exact qi.out⟩,⟨by(with_reducible repeat(first|refine blk_drewN ?_ _|refine blk_drew ?_|refine blk_alloc ?_ _));exact qa.out⟩,⟨by(with_reducible repeat(first|refine blk_drewN ?_ _|refine blk_drew ?_|refine blk_alloc ?_ _));exact qb.out⟩,⟨by(with_reducible repeat(first|refine blk_drewN ?_ _|refine blk_drew ?_|refine blk_alloc ?_ _));exact qc.out⟩,⟨by repeat(first|(with_reducible first|exact HB.out|apply below_alloc|apply pw_below_drewN|apply below_drew1|refine below_set ?_ qm.out|refine below_set ?_ qn.out|refine below_set ?_ qv.out)|exact HB.out)⟩⟩
                      ·rw [if_neg c92] at H
                       have ys:(yb == qw)=false:=beq_eq_false_iff_ne.mpr c92
                       have c92b1:(yb != qw)=true:=bne_iff_ne.mpr c92
                       (first|rw [ys]|(simp only [i64_w,i32_w];rw [ys])|skip)
                       by_cases c93:0≤qw
                       case neg=>rw[if_neg c93] at H;exact absurd H (by simp)
                       rw[if_pos c93] at H
                       have c93b0:=eq_true c93
                       have c93b1:decide (0≤qw)=true:=decide_eq_true c93
                       clear c93
                       by_cases c94:qw≤(wrap64 (yb - 1))
                       case neg=>rw[if_neg c94] at H;exact absurd H (by simp)
                       rw[if_pos c94] at H
                       have c94b0:=eq_true c94
                       have c94b1:decide (qw≤(wrap64 (yb - 1)))=true:=decide_eq_true c94
                       clear c94
                       by_cases c95:(wrap64 (yb - 1))≤(a0.size:Int)
                       case neg=>rw[if_neg c95] at H;exact absurd H (by simp)
                       rw[if_pos c95] at H
                       have c95b0:=eq_true c95
                       have c95b1:decide ((wrap64 (yb - 1))≤(a0.size:Int))=true:=decide_eq_true c95
                       clear c95
                       replace H:=Option.bind_eq_some_iff.mp H
                       obtain⟨t209,A960,H⟩:=H
                       try dsimp only at H
                       have A96:=Ka A960
                       clear A960
                       have H':=Ka H
                       clear H
                       go_wp2_with (first|(go_at_call 32;(with_reducible refine(spec_l12Text.calls k6 (a0.extract (qw:Int).toNat ((wrap64 (yb - 1)):Int).toNat) t209 _ A96.out).mono ?_);rintro e w' ⟨rfl,⟨nd,rfl⟩⟩))
                       go_meet
                       case rel=>exact⟨_,(!t209),(by first|rfl|(simp;done)|(simp [*];done)),H',⟨by have:=HK1.out;have:=yi.out;have:=yq.out;have:=HJ47.out;have:=HJ63.out;have:=HK6.out;first|omega|exact Nat.le_refl _⟩,⟨by(with_reducible repeat(first|apply Kd.R_alloc|apply Kd.R_drewN|apply Kd.R_drew));exact qi.out⟩,⟨by(with_reducible repeat(first|refine blk_drewN ?_ _|refine blk_drew ?_|refine blk_alloc ?_ _));exact qa.out⟩,⟨by(with_reducible repeat(first|refine blk_drewN ?_ _|refine blk_drew ?_|refine blk_alloc ?_ _));exact qb.out⟩,⟨by(with_reducible repeat(first|refine blk_drewN ?_ _|refine blk_drew ?_|refine blk_alloc ?_ _));exact qc.out⟩,⟨by repeat(first|(with_reducible first|exact HB.out|apply below_alloc|apply pw_below_drewN|apply below_drew1|refine below_set ?_ qm.out|refine below_set ?_ qn.out|refine below_set ?_ qv.out)|exact HB.out)⟩⟩
                     case rest=>
                      clear HC91;try clear p1;try clear q1;try clear hx1;try clear p2;try clear c3;try clear c5;try clear c6;try clear p6;try clear c7;try clear c8;try clear c9;try clear p19;try clear q19;try clear hx19;try clear c30;try clear c58;try clear p64;try clear c65;try clear c66;try clear c68;try clear yn;try clear c71;try clear c71b0;try clear c71b1;try clear c73;try clear c73b0;try clear c74;try clear c74b0;try clear c79;try clear c85;try clear c86;try clear c89;try clear c90;try clear c90b0;try clear c90b1;try clear c92;try clear ys;try clear c92b1;try clear c93;try clear c93b0;try clear c93b1;try clear c94;try clear c94b0;try clear c94b1;try clear c95;try clear c95b0;try clear c95b1;try clear hcz67_0;try clear hcz67_1;try clear hcz87_0;try clear hcz87_1;try clear hfz67_0;try clear hfz67_1;try clear hfz87_0;try clear hfz87_1;try clear yk;try clear yl;try clear ym;try clear p1;try clear p19;try clear p199;try clear p2;try clear p6;try clear p64;try clear q1;try clear q19;try clear q199
                      obtain⟨kq,yp,rfl,HA,HJ90,qi,qa,qb,qc,HB⟩:=hcut
                      cases kq with
                      | zero => exact absurd HA.out (by simp [spec_ReadTitles.j6])
                      | succ kj90 =>
                       have H:=HA.out
                       clear HA
                       simp only [spec_ReadTitles.j6] at H
                       by_cases c97:yp=true
                       ·subst c97
                        rw[if_pos rfl] at H
                        obtain⟨y210,hy210⟩:∃ y_:List (S40),y_=(([]:List (S40))):=⟨_,rfl⟩
                        replace H:(some (y210,5,(qd.length:Int)))=some (r1,r2,r3):=by first|(rw [hy210];with_reducible exact H)|(have yf:=(Option.bind_some _ _).symm.trans H;rw [hy210];with_reducible exact yf)|(have yf:=(Option.bind_some _ _).symm.trans H;with_reducible exact yf)|with_reducible exact H|(rw [hy210];exact H)|exact H
                        have Ny210:=Ka hy210
                        clear hy210
                        simp only [Option.some.injEq,Prod.mk.injEq] at H
                        obtain⟨rfl,rfl,rfl⟩:=H
                        try go_wp2
                        have qs:=Ka (Kd.R_drew qi.out)
                        have qt:=Ka (blk_drew qa.out)
                        have qu:=Ka (blk_drew qb.out)
                        have qx:=Ka (blk_drew qc.out)
                        have yc:=Ka (below_drew1 HB.out)
                        clear qi qa
                        clear qb qc
                        clear HB
                        have qi:=qs
                        have qa:=qt
                        have qb:=qu
                        have qc:=qx
                        have HB:=yc
                        clear qs qt qu qx yc
                        refine start_ (n:=4) (S:=fun w'=>w'.cell? ⟨qg,0,none⟩=some (.int .i64 5)∧w'.cell? ⟨qg,1,none⟩=some (.int .i64 (qd.length:Int))) (ds:=[]) #[false,false,false,false] (by kernel_rfl) rfl rfl ⟨(blk_cell qb.out 0).trans rfl,(blk_cell qb.out 1).trans rfl⟩ (fun hHeld=>?_)
                        generalize wc.drew=w98 at qi qa qb qc HB hHeld ⊢
                        refine take_ (i:=1) (N:=some 145) (v:=?_) (a':=?_) (bm 4 2) rfl rfl (by kernel_rfl) (fun _ _ _ h=>h) (Or.inl ⟨by rfl,?_⟩) hHeld ?_ ?_;rotate_left;(rintro w' ⟨s0,s1⟩;go_simp;with_reducible rfl);rotate_left;(simp only[pw];rfl)
                        refine one_ (i:=0) (N:=some 144) (bm 4 3) rfl rfl (by kernel_rfl) (by decide) (fun K hK=>?_)
                        refine Kd.R_lit_step k40 _ 40 ?hg (N:=144) ?hd (xs:=([]:List (S40))) (inner:=[]) (ok:=fun _=>True) (okp:=fun _=>True) ?hr ?hp (fun _ hk=>hk) trivial (Below.refl _ _) (Nat.le_refl _) (by simp) ?_;(case hd=>rfl);(case hg=>rfl);(case hr=>first|(go_simp;done)|(go_simp;rfl));(case hp=>exact(Reps.none _ _))
                        intro v211 w99 ho100 hb hg_ hnew_
                        clear hg_ hnew_
                        (first|rw [← Ny210.out] at ho100|(simp only [Int.reduceToNat] at ho100;rw [← Ny210.out] at ho100))
                        have qs:=Ka (Kd.R_elder' (by(with_reducible repeat(first|apply Kd.R_alloc|apply Kd.R_drewN|apply Kd.R_drew));exact qi.out) (Kd.R_base ho100) hb)
                        have qt:=Ka (Kd.R_lower (Kd.R_newB (Kd.R_new' ho100 (Kd.R_lt (by(with_reducible repeat(first|apply Kd.R_alloc|apply Kd.R_drewN|apply Kd.R_drew));exact qi.out))) (g:=qj) (o:=.cells #[.int .i64 qr,.int .i64 qy,.string (⟨#[]⟩:ByteArray)] 40 (0,0)) (by(with_reducible repeat(first|refine blk_drewN ?_ _|refine blk_drew ?_|refine blk_alloc ?_ _));exact qc.out)) (below_size (by repeat(first|(with_reducible first|exact HB.out|apply below_alloc|apply pw_below_drewN|apply below_drew1|refine below_set ?_ qm.out|refine below_set ?_ qn.out|refine below_set ?_ qv.out)|exact HB.out))))
                        have qu:=Ka (blk_below (g:=qe) (o:=.cells #[.int .i64 qq,.int .i64 qp] 30 (0,0)) (by(with_reducible repeat(first|refine blk_drewN ?_ _|refine blk_drew ?_|refine blk_alloc ?_ _));exact qa.out) hb)
                        have qx:=Ka (blk_below (g:=qg) (o:=.cells #[.int .i64 5,.int .i64 (qd.length:Int)] 30 (0,0)) (by(with_reducible repeat(first|refine blk_drewN ?_ _|refine blk_drew ?_|refine blk_alloc ?_ _));exact qb.out) hb)
                        have yc:=Ka (blk_below (g:=qj) (o:=.cells #[.int .i64 qr,.int .i64 qy,.string (⟨#[]⟩:ByteArray)] 40 (0,0)) (by(with_reducible repeat(first|refine blk_drewN ?_ _|refine blk_drew ?_|refine blk_alloc ?_ _));exact qc.out) hb)
                        have yt:=Ka (below_step (by repeat(first|(with_reducible first|exact HB.out|apply below_alloc|apply pw_below_drewN|apply below_drew1|refine below_set ?_ qm.out|refine below_set ?_ qn.out|refine below_set ?_ qv.out)|exact HB.out)) hb)
                        clear qi qa
                        clear qb qc
                        clear HB
                        have qi:=qs
                        have HO212:=qt
                        have qa:=qu
                        have qb:=qx
                        have qc:=yc
                        have HB:=yt
                        clear qs qt qu qx yc yt
                        clear hb ho100
                        refine hK.out _ _ ⟨(blk_cell qb.out 0).trans rfl,(blk_cell qb.out 1).trans rfl⟩ (fun hHeld=>?_)
                        clear hK K
                        refine norm_ (a':=?_) ?_ ?_;rotate_left;(show Act.put _ (some 144) _=_;simp only[pw];rfl)
                        refine pure_ (i:=2) (N:=some 2) (v:=?_) (a':=?_) (bm 4 7) rfl rfl (by kernel_rfl) (fun _ _ _ h=>h) (Or.inl ⟨by rfl,?_⟩) ?_ ?_;rotate_left;(intro w';go_simp;with_reducible rfl);rotate_left;(simp only[pw];rfl)
                        refine one_ (i:=3) (N:=none) (bm 4 15) rfl rfl (by kernel_rfl) (by decide) (fun K hK=>?_)
                        have hs101:w99.cell? ⟨qe,0,none⟩=some (.int .i64 qq):=(blk_cell qa.out 0).trans rfl
                        have hfs101:=blk_frozen qa.out 0
                        have hns101_1:=qf.out
                        have hns101_2:=ya.out
                        have hms101_1:=ql.out
                        have hms101_2:=qo.out
                        have hs102:w99.cell? ⟨qe,1,none⟩=some (.int .i64 qp):=(blk_cell qa.out 1).trans rfl
                        have hfs102:=blk_frozen qa.out 1
                        have hns102_1:=qf.out
                        have hns102_2:=ya.out
                        have hms102_1:=ql.out
                        have hms102_2:=qo.out
                        refine skip_ (w1:=?_) (by rfl) rfl ?_ ?_
                        rotate_left
                        ·go_simp
                         rfl
                        refine hK.out _ _ ⟨((cell_far (p:=⟨qe,_,none⟩) qf.out _).trans (((cell_far (p:=⟨qe,_,none⟩) qf.out _).trans (hHeld.1)))),((cell_far (p:=⟨qe,_,none⟩) qf.out _).trans (((cell_far (p:=⟨qe,_,none⟩) qf.out _).trans (hHeld.2))))⟩ (fun hHeld=>?_)
                        clear hK K
                        refine done_ (by kernel_rfl) ?_
                        try go_wp2
                        refine bodyPost_ret (results_tc rfl _ _ qe 30 #[.int .i64 5,.int .i64 (qd.length:Int)] (0,0) _ rfl (by(with_reducible repeat(first|refine blk_drewN ?_ _|refine blk_drew ?_|refine blk_alloc ?_ _));refine blk_put (cs:=#[.int .i64 5,.int .i64 qp]) ?_ 1 _ rfl;(with_reducible repeat(first|refine blk_drewN ?_ _|refine blk_drew ?_|refine blk_alloc ?_ _));refine blk_put (cs:=#[.int .i64 qq,.int .i64 qp]) ?_ 0 _ rfl;(with_reducible repeat(first|refine blk_drewN ?_ _|refine blk_drew ?_|refine blk_alloc ?_ _));exact qa.out) Tryd.underlying30 rfl (by kernel_rfl)) rfl ?_
                        exact⟨_,by first|rfl|(simp [errW_none,errW_some] <;> rfl)|(simp [*,errW_none,errW_some] <;> rfl),by(with_reducible repeat(first|apply Kd.R_alloc|apply Kd.R_drewN|apply Kd.R_drew));exact Kd.R_mono (Kd.R_far (p:=⟨qe,1,none⟩) (Kd.R_far (p:=⟨qe,0,none⟩) (Kd.R_types HO212.out qa.out (by decide)) (fun _ hk=>hk.2) (.int .i64 5)) (fun _ hk=>hk.2) (.int .i64 (qd.length:Int))) (fun _ hk=>trivial),by repeat(first|(with_reducible first|exact HB.out|apply below_alloc|apply pw_below_drewN|apply below_drew1|refine below_set ?_ qm.out|refine below_set ?_ qn.out|refine below_set ?_ qv.out)|exact HB.out)⟩
                       ·replace c97:=Bool.eq_false_iff.mpr c97
                        subst c97
                        have H1:(if 0≤qw then (if qw≤(wrap64 (yb - 1)) then (if (wrap64 (yb - 1))≤(a0.size:Int) then (if (qd.length:Int)=200 then (some ((([]:List (S40))),6,(qd.length:Int))) else (if qd.length < 4398046511104 then (spec_ReadTitles.l0 kj90 a0 (qd ++ [(⟨qr,qy,a0.extract (qw:Int).toNat ((wrap64 (yb - 1)):Int).toNat⟩:S40)]) t204) else (none))) else (none)) else (none)) else (none))=some (r1,r2,r3):=by rw [if_neg (show ¬ (false=true) by decide)] at H;exact H
                        clear H
                        have H:=H1
                        clear H1
                        by_cases c103:0≤qw
                        case neg=>rw[if_neg c103] at H;exact absurd H (by simp)
                        rw[if_pos c103] at H
                        have c103b0:=eq_true c103
                        have c103b1:decide (0≤qw)=true:=decide_eq_true c103
                        clear c103
                        by_cases c104:qw≤(wrap64 (yb - 1))
                        case neg=>rw[if_neg c104] at H;exact absurd H (by simp)
                        rw[if_pos c104] at H
                        have c104b0:=eq_true c104
                        have c104b1:decide (qw≤(wrap64 (yb - 1)))=true:=decide_eq_true c104
                        clear c104
                        by_cases c105:(wrap64 (yb - 1))≤(a0.size:Int)
                        case neg=>rw[if_neg c105] at H;exact absurd H (by simp)
                        rw[if_pos c105] at H
                        have c105b0:=eq_true c105
                        have c105b1:decide ((wrap64 (yb - 1))≤(a0.size:Int))=true:=decide_eq_true c105
                        clear c105
                        by_cases c106:(qd.length:Int)=200
                        ·rw [if_pos c106] at H
                         have c106b0:((qd.length:Int) == 200)=true:=beq_iff_eq.mpr c106
                         have c106b1:((qd.length:Int) != 200)=false:=bne_eq_false_iff_eq.mpr c106
                         clear c106
                         obtain⟨y213,hy213⟩:∃ y_:List (S40),y_=(([]:List (S40))):=⟨_,rfl⟩
                         replace H:(some (y213,6,(qd.length:Int)))=some (r1,r2,r3):=by first|(rw [hy213];with_reducible exact H)|(have yf:=(Option.bind_some _ _).symm.trans H;rw [hy213];with_reducible exact yf)|(have yf:=(Option.bind_some _ _).symm.trans H;with_reducible exact yf)|with_reducible exact H|(rw [hy213];exact H)|exact H
                         have Ny213:=Ka hy213
                         clear hy213
                         simp only [Option.some.injEq,Prod.mk.injEq] at H
                         obtain⟨rfl,rfl,rfl⟩:=H
                         have hnb107:=ya.out
                         have hnc107:=qo.out
                         have hnb108:=yd.out
                         have hnc108:=qz.out
                         have hcz109_0:wc.cell? ⟨qj,0,none⟩=some (.int .i64 qr):=(blk_cell qc.out 0).trans rfl
                         have hcz109_1:wc.cell? ⟨qj,1,none⟩=some (.int .i64 qy):=(blk_cell qc.out 1).trans rfl
                         have hcz109_2:wc.cell? ⟨qj,2,none⟩=some (.string (⟨#[]⟩:ByteArray)):=(blk_cell qc.out 2).trans rfl
                         have hfz109_0:=blk_frozen qc.out 0
                         have hfz109_1:=blk_frozen qc.out 1
                         have hfz109_2:=blk_frozen qc.out 2
                         have hnb110:=qf.out
                         have hnc110:=ql.out
                         have hcz111_0:wc.cell? ⟨qg,0,none⟩=some (.int .i64 5):=(blk_cell qb.out 0).trans rfl
                         have hcz111_1:wc.cell? ⟨qg,1,none⟩=some (.int .i64 (qd.length:Int)):=(blk_cell qb.out 1).trans rfl
                         have hfz111_0:=blk_frozen qb.out 0
                         have hfz111_1:=blk_frozen qb.out 1
                         try go_wp2
                         have qs:Aside0 (Kd.R k40 40 ((wc.setCell ⟨qj,2,none⟩ (.string (a0.extract (qw:Int).toNat ((wrap64 (yb - 1)):Int).toNat))).setCell ⟨qg,0,none⟩ (.int .i64 6)) w.heap.size (fun k_=>k_≠qj) (.slice yh qd.length yj) qd):=⟨by(with_reducible repeat(first|apply Kd.R_alloc|apply Kd.R_drewN|apply Kd.R_drew));exact Kd.R_mono (Kd.R_far (p:=⟨qg,0,none⟩) (Kd.R_far (p:=⟨qj,2,none⟩) (Kd.R_types (Kd.R_mono qi.out (fun k_ hk=>(⟨hk,hk⟩:_∧k_≠qj))) qb.out (by decide)) (fun _ hk=>hk.1.2) (.string (a0.extract (qw:Int).toNat ((wrap64 (yb - 1)):Int).toNat))) (fun _ hk=>hk.2) (.int .i64 6)) (fun _ hk=>hk.1.1)⟩
                         have qt:Aside0 (((wc.setCell ⟨qj,2,none⟩ (.string (a0.extract (qw:Int).toNat ((wrap64 (yb - 1)):Int).toNat))).setCell ⟨qg,0,none⟩ (.int .i64 6)).heap[qe]? = some (.cells #[.int .i64 qq,.int .i64 qp] 30 (0,0))):=⟨by(with_reducible repeat(first|refine blk_drewN ?_ _|refine blk_drew ?_|refine blk_alloc ?_ _));refine blk_far ?_ ql.out _;(with_reducible repeat(first|refine blk_drewN ?_ _|refine blk_drew ?_|refine blk_alloc ?_ _));refine blk_far ?_ qo.out _;(with_reducible repeat(first|refine blk_drewN ?_ _|refine blk_drew ?_|refine blk_alloc ?_ _));exact qa.out⟩
                         have qu:Aside0 (((wc.setCell ⟨qj,2,none⟩ (.string (a0.extract (qw:Int).toNat ((wrap64 (yb - 1)):Int).toNat))).setCell ⟨qg,0,none⟩ (.int .i64 6)).heap[qg]? = some (.cells #[.int .i64 6,.int .i64 (qd.length:Int)] 30 (0,0))):=⟨by(with_reducible repeat(first|refine blk_drewN ?_ _|refine blk_drew ?_|refine blk_alloc ?_ _));refine blk_put (cs:=#[.int .i64 5,.int .i64 (qd.length:Int)]) ?_ 0 _ rfl;(with_reducible repeat(first|refine blk_drewN ?_ _|refine blk_drew ?_|refine blk_alloc ?_ _));refine blk_far ?_ qz.out _;(with_reducible repeat(first|refine blk_drewN ?_ _|refine blk_drew ?_|refine blk_alloc ?_ _));exact qb.out⟩
                         have qx:Aside0 (((wc.setCell ⟨qj,2,none⟩ (.string (a0.extract (qw:Int).toNat ((wrap64 (yb - 1)):Int).toNat))).setCell ⟨qg,0,none⟩ (.int .i64 6)).heap[qj]? = some (.cells #[.int .i64 qr,.int .i64 qy,.string (a0.extract (qw:Int).toNat ((wrap64 (yb - 1)):Int).toNat)] 40 (0,0))):=⟨by(with_reducible repeat(first|refine blk_drewN ?_ _|refine blk_drew ?_|refine blk_alloc ?_ _));refine blk_far ?_ yd.out _;(with_reducible repeat(first|refine blk_drewN ?_ _|refine blk_drew ?_|refine blk_alloc ?_ _));refine blk_put (cs:=#[.int .i64 qr,.int .i64 qy,.string (⟨#[]⟩:ByteArray)]) ?_ 2 _ rfl;(with_reducible repeat(first|refine blk_drewN ?_ _|refine blk_drew ?_|refine blk_alloc ?_ _));exact qc.out⟩
                         have yc:Aside0 (Below w.heap.size w ((wc.setCell ⟨qj,2,none⟩ (.string (a0.extract (qw:Int).toNat ((wrap64 (yb - 1)):Int).toNat))).setCell ⟨qg,0,none⟩ (.int .i64 6))):=⟨by repeat(first|(with_reducible first|exact HB.out|apply below_alloc|apply pw_below_drewN|apply below_drew1|refine below_set ?_ qm.out|refine below_set ?_ qn.out|refine below_set ?_ qv.out)|exact HB.out)⟩
                         (try clear qi)
                         (try clear qa)
                         (try clear qb)
                         (try clear qc)
                         (try clear HB)
                         generalize ((wc.setCell ⟨qj,2,none⟩ (.string (a0.extract (qw:Int).toNat ((wrap64 (yb - 1)):Int).toNat))).setCell ⟨qg,0,none⟩ (.int .i64 6))=w112 at qs qt qu qx yc ⊢
                         have qi:=qs
                         have qa:=qt
                         have qb:=qu
                         have qc:=qx
                         have HB:=yc
                         clear qs qt qu qx yc
                         have qs:=Ka (Kd.R_drew qi.out)
                         have qt:=Ka (blk_drew qa.out)
                         have qu:=Ka (blk_drew qb.out)
                         have qx:=Ka (blk_drew qc.out)
                         have yc:=Ka (below_drew1 HB.out)
                         clear qi qa
                         clear qb qc
                         clear HB
                         have qi:=qs
                         have qa:=qt
                         have qb:=qu
                         have qc:=qx
                         have HB:=yc
                         clear qs qt qu qx yc
                         refine start_ (n:=4) (S:=fun w'=>w'.cell? ⟨qg,0,none⟩=some (.int .i64 6)∧w'.cell? ⟨qg,1,none⟩=some (.int .i64 (qd.length:Int))) (ds:=[]) #[false,false,false,false] (by kernel_rfl) rfl rfl ⟨(blk_cell qb.out 0).trans rfl,(blk_cell qb.out 1).trans rfl⟩ (fun hHeld=>?_)
                         generalize w112.drew=w113 at qi qa qb qc HB hHeld ⊢
                         refine take_ (i:=1) (N:=some 156) (v:=?_) (a':=?_) (bm 4 2) rfl rfl (by kernel_rfl) (fun _ _ _ h=>h) (Or.inl ⟨by rfl,?_⟩) hHeld ?_ ?_;rotate_left;(rintro w' ⟨s0,s1⟩;go_simp;with_reducible rfl);rotate_left;(simp only[pw];rfl)
                         refine one_ (i:=0) (N:=some 155) (bm 4 3) rfl rfl (by kernel_rfl) (by decide) (fun K hK=>?_)
                         refine Kd.R_lit_step k40 _ 40 ?hg (N:=155) ?hd (xs:=([]:List (S40))) (inner:=[]) (ok:=fun _=>True) (okp:=fun _=>True) ?hr ?hp (fun _ hk=>hk) trivial (Below.refl _ _) (Nat.le_refl _) (by simp) ?_;(case hd=>rfl);(case hg=>rfl);(case hr=>first|(go_simp;done)|(go_simp;rfl));(case hp=>exact(Reps.none _ _))
                         intro v214 w114 ho115 hb hg_ hnew_
                         clear hg_ hnew_
                         (first|rw [← Ny213.out] at ho115|(simp only [Int.reduceToNat] at ho115;rw [← Ny213.out] at ho115))
                         have qs:=Ka (Kd.R_elder' (by(with_reducible repeat(first|apply Kd.R_alloc|apply Kd.R_drewN|apply Kd.R_drew));exact qi.out) (Kd.R_base ho115) hb)
                         have qt:=Ka (Kd.R_lower (Kd.R_newB (Kd.R_new' ho115 (Kd.R_lt (by(with_reducible repeat(first|apply Kd.R_alloc|apply Kd.R_drewN|apply Kd.R_drew));exact qi.out))) (g:=qj) (o:=.cells #[.int .i64 qr,.int .i64 qy,.string (a0.extract (qw:Int).toNat ((wrap64 (yb - 1)):Int).toNat)] 40 (0,0)) (by(with_reducible repeat(first|refine blk_drewN ?_ _|refine blk_drew ?_|refine blk_alloc ?_ _));exact qc.out)) (below_size (by repeat(first|(with_reducible first|exact HB.out|apply below_alloc|apply pw_below_drewN|apply below_drew1|refine below_set ?_ qm.out|refine below_set ?_ qn.out|refine below_set ?_ qv.out)|exact HB.out))))
                         have qu:=Ka (blk_below (g:=qe) (o:=.cells #[.int .i64 qq,.int .i64 qp] 30 (0,0)) (by(with_reducible repeat(first|refine blk_drewN ?_ _|refine blk_drew ?_|refine blk_alloc ?_ _));exact qa.out) hb)
                         have qx:=Ka (blk_below (g:=qg) (o:=.cells #[.int .i64 6,.int .i64 (qd.length:Int)] 30 (0,0)) (by(with_reducible repeat(first|refine blk_drewN ?_ _|refine blk_drew ?_|refine blk_alloc ?_ _));exact qb.out) hb)
                         have yc:=Ka (blk_below (g:=qj) (o:=.cells #[.int .i64 qr,.int .i64 qy,.string (a0.extract (qw:Int).toNat ((wrap64 (yb - 1)):Int).toNat)] 40 (0,0)) (by(with_reducible repeat(first|refine blk_drewN ?_ _|refine blk_drew ?_|refine blk_alloc ?_ _));exact qc.out) hb)
                         have yt:=Ka (below_step (by repeat(first|(with_reducible first|exact HB.out|apply below_alloc|apply pw_below_drewN|apply below_drew1|refine below_set ?_ qm.out|refine below_set ?_ qn.out|refine below_set ?_ qv.out)|exact HB.out)) hb)
                         clear qi qa
                         clear qb qc
                         clear HB
                         have qi:=qs
                         have HO215:=qt
                         have qa:=qu
                         have qb:=qx
                         have qc:=yc
                         have HB:=yt
                         clear qs qt qu qx yc yt
                         clear hb ho115
                         refine hK.out _ _ ⟨(blk_cell qb.out 0).trans rfl,(blk_cell qb.out 1).trans rfl⟩ (fun hHeld=>?_)
                         clear hK K
                         refine norm_ (a':=?_) ?_ ?_;rotate_left;(show Act.put _ (some 155) _=_;simp only[pw];rfl)
                         refine pure_ (i:=2) (N:=some 2) (v:=?_) (a':=?_) (bm 4 7) rfl rfl (by kernel_rfl) (fun _ _ _ h=>h) (Or.inl ⟨by rfl,?_⟩) ?_ ?_;rotate_left;(intro w';go_simp;with_reducible rfl);rotate_left;(simp only[pw];rfl)
                         refine one_ (i:=3) (N:=none) (bm 4 15) rfl rfl (by kernel_rfl) (by decide) (fun K hK=>?_)
                         have hs116:w114.cell? ⟨qe,0,none⟩=some (.int .i64 qq):=(blk_cell qa.out 0).trans rfl
                         have hfs116:=blk_frozen qa.out 0
                         have hns116_1:=qf.out
                         have hns116_2:=ya.out
                         have hms116_1:=ql.out
                         have hms116_2:=qo.out
                         have hs117:w114.cell? ⟨qe,1,none⟩=some (.int .i64 qp):=(blk_cell qa.out 1).trans rfl
                         have hfs117:=blk_frozen qa.out 1
                         have hns117_1:=qf.out
                         have hns117_2:=ya.out
                         have hms117_1:=ql.out
                         have hms117_2:=qo.out
                         refine skip_ (w1:=?_) (by rfl) rfl ?_ ?_
                         rotate_left
                         ·go_simp
                          rfl
                         refine hK.out _ _ ⟨((cell_far (p:=⟨qe,_,none⟩) qf.out _).trans (((cell_far (p:=⟨qe,_,none⟩) qf.out _).trans (hHeld.1)))),((cell_far (p:=⟨qe,_,none⟩) qf.out _).trans (((cell_far (p:=⟨qe,_,none⟩) qf.out _).trans (hHeld.2))))⟩ (fun hHeld=>?_)
                         clear hK K
                         refine done_ (by kernel_rfl) ?_
                         try go_wp2
                         refine bodyPost_ret (results_tc rfl _ _ qe 30 #[.int .i64 6,.int .i64 (qd.length:Int)] (0,0) _ rfl (by(with_reducible repeat(first|refine blk_drewN ?_ _|refine blk_drew ?_|refine blk_alloc ?_ _));refine blk_put (cs:=#[.int .i64 6,.int .i64 qp]) ?_ 1 _ rfl;(with_reducible repeat(first|refine blk_drewN ?_ _|refine blk_drew ?_|refine blk_alloc ?_ _));refine blk_put (cs:=#[.int .i64 qq,.int .i64 qp]) ?_ 0 _ rfl;(with_reducible repeat(first|refine blk_drewN ?_ _|refine blk_drew ?_|refine blk_alloc ?_ _));exact qa.out) Tryd.underlying30 rfl (by kernel_rfl)) rfl ?_
                         exact⟨_,by first|rfl|(simp [errW_none,errW_some] <;> rfl)|(simp [*,errW_none,errW_some] <;> rfl),by(with_reducible repeat(first|apply Kd.R_alloc|apply Kd.R_drewN|apply Kd.R_drew));exact Kd.R_mono (Kd.R_far (p:=⟨qe,1,none⟩) (Kd.R_far (p:=⟨qe,0,none⟩) (Kd.R_types HO215.out qa.out (by decide)) (fun _ hk=>hk.2) (.int .i64 6)) (fun _ hk=>hk.2) (.int .i64 (qd.length:Int))) (fun _ hk=>trivial),by repeat(first|(with_reducible first|exact HB.out|apply below_alloc|apply pw_below_drewN|apply below_drew1|refine below_set ?_ qm.out|refine below_set ?_ qn.out|refine below_set ?_ qv.out)|exact HB.out)⟩
                        ·rw [if_neg c106] at H
                         have c106b0:((qd.length:Int) == 200)=false:=beq_eq_false_iff_ne.mpr c106
                         have c106b1:((qd.length:Int) != 200)=true:=bne_iff_ne.mpr c106
                         by_cases c118:qd.length < 4398046511104
                         case neg=>rw[if_neg c118] at H;exact absurd H (by simp)
                         rw[if_pos c118] at H
                         have LMc118:=Ka c118
                         clear c118
                         obtain⟨y216,hy216⟩:∃ y_:List (S40),y_=(qd ++ [(⟨qr,qy,a0.extract (qw:Int).toNat ((wrap64 (yb - 1)):Int).toNat⟩:S40)]):=⟨_,rfl⟩
                         replace H:(spec_ReadTitles.l0 kj90 a0 y216 t204)=some (r1,r2,r3):=by first|(rw [hy216];with_reducible exact H)|(have yf:=(Option.bind_some _ _).symm.trans H;rw [hy216];with_reducible exact yf)|(have yf:=(Option.bind_some _ _).symm.trans H;with_reducible exact yf)|with_reducible exact H|(rw [hy216];exact H)|exact H
                         have Ny216:=Ka hy216
                         clear hy216
                         have H':=Ka H
                         clear H
                         have hnb119:=ya.out
                         have hnc119:=qo.out
                         have hnb120:=yd.out
                         have hnc120:=qz.out
                         have hcz121_0:wc.cell? ⟨qj,0,none⟩=some (.int .i64 qr):=(blk_cell qc.out 0).trans rfl
                         have hcz121_1:wc.cell? ⟨qj,1,none⟩=some (.int .i64 qy):=(blk_cell qc.out 1).trans rfl
                         have hcz121_2:wc.cell? ⟨qj,2,none⟩=some (.string (⟨#[]⟩:ByteArray)):=(blk_cell qc.out 2).trans rfl
                         have hfz121_0:=blk_frozen qc.out 0
                         have hfz121_1:=blk_frozen qc.out 1
                         have hfz121_2:=blk_frozen qc.out 2
                         go_wp2_with (first|((with_reducible refine gate_builtin (b:=.append) (xs:=#[.tmp 157,.tmp 159]) rfl ?_);(try(refine gate_guard (by rfl) ?_;dsimp only));at_builtin;refine Kd.R_append k40 (w0:=w) w.heap.size rfl (.tmp 157) (.tmp 159) 25 40 (.agg #[(.int .i64 0),(.int .i64 0),(.string ⟨#[]⟩)]) 32 rfl Tryd.underlying25 info40 rfl (by decide) (by omega) (.slice yh qd.length yj) qd (⟨qr,qy,a0.extract (qw:Int).toNat ((wrap64 (yb - 1)):Int).toNat⟩:S40) [.int .i64 qr,.int .i64 qy,.string (a0.extract (qw:Int).toNat ((wrap64 (yb - 1)):Int).toNat)] (fun k_=>k_≠qj) (fun _=>False) rfl (by first|(go_simp;done)|(go_simp;rfl)) ?aP (fun _ hk=>hk.elim) ?aF ?aO ?aB ?aS ?aL ?_;(case aP=>exact k40_mkM _ _ _ (⟨qr,qy,a0.extract (qw:Int).toNat ((wrap64 (yb - 1)):Int).toNat⟩:S40));(case aB=>exact(by repeat(first|(with_reducible first|exact HB.out|apply below_alloc|apply pw_below_drewN|apply below_drew1|refine below_set ?_ qm.out|refine below_set ?_ qn.out|refine below_set ?_ qv.out)|exact HB.out)));(case aF=>exact(fun k_ hk=>Kd.freshB (g:=qj) (o:=.cells #[.int .i64 qr,.int .i64 qy,.string (a0.extract (qw:Int).toNat ((wrap64 (yb - 1)):Int).toNat)] 40 (0,0)) (by(with_reducible repeat(first|refine blk_drewN ?_ _|refine blk_drew ?_|refine blk_alloc ?_ _));refine blk_put (cs:=#[.int .i64 qr,.int .i64 qy,.string (⟨#[]⟩:ByteArray)]) ?_ 2 _ rfl;(with_reducible repeat(first|refine blk_drewN ?_ _|refine blk_drew ?_|refine blk_alloc ?_ _));exact qc.out) k_ hk));(case aO=>exact(by(with_reducible repeat(first|apply Kd.R_alloc|apply Kd.R_drewN|apply Kd.R_drew));exact Kd.R_mono (Kd.R_far (p:=⟨qj,2,none⟩) (Kd.R_mono qi.out (fun k_ hk=>(⟨hk,hk⟩:_∧k_≠qj))) (fun _ hk=>hk.2) (.string (a0.extract (qw:Int).toNat ((wrap64 (yb - 1)):Int).toNat))) (fun _ hk=>hk.1)));(case aS=>exact(below_size (by repeat(first|(with_reducible first|exact HB.out|apply below_alloc|apply pw_below_drewN|apply below_drew1|refine below_set ?_ qm.out|refine below_set ?_ qn.out|refine below_set ?_ qv.out)|exact HB.out))));(case aL=>have:=LMc118.out;omega);intro v217 w122 ho hb hg hat;rw [← Ny216.out] at ho;have qs:=Ka (blk_grown (g:=qe) (o:=.cells #[.int .i64 qq,.int .i64 qp] 30 (0,0)) (by(with_reducible repeat(first|refine blk_drewN ?_ _|refine blk_drew ?_|refine blk_alloc ?_ _));refine blk_far ?_ qo.out _;(with_reducible repeat(first|refine blk_drewN ?_ _|refine blk_drew ?_|refine blk_alloc ?_ _));exact qa.out) hg (Kd.R_ne qi.out qa.out (by decide)));have qt:=Ka (blk_grown (g:=qg) (o:=.cells #[.int .i64 5,.int .i64 (qd.length:Int)] 30 (0,0)) (by(with_reducible repeat(first|refine blk_drewN ?_ _|refine blk_drew ?_|refine blk_alloc ?_ _));refine blk_far ?_ qz.out _;(with_reducible repeat(first|refine blk_drewN ?_ _|refine blk_drew ?_|refine blk_alloc ?_ _));exact qb.out) hg (Kd.R_ne qi.out qb.out (by decide)));have qu:=Ka (blk_grown (g:=qj) (o:=.cells #[.int .i64 qr,.int .i64 qy,.string (a0.extract (qw:Int).toNat ((wrap64 (yb - 1)):Int).toNat)] 40 (0,0)) (by(with_reducible repeat(first|refine blk_drewN ?_ _|refine blk_drew ?_|refine blk_alloc ?_ _));refine blk_put (cs:=#[.int .i64 qr,.int .i64 qy,.string (⟨#[]⟩:ByteArray)]) ?_ 2 _ rfl;(with_reducible repeat(first|refine blk_drewN ?_ _|refine blk_drew ?_|refine blk_alloc ?_ _));exact qc.out) hg (Kd.R_away qi.out (fun _ hk=>hk)));have qx:=Ka (hb);have yc:=Ka (ho);clear qa;clear qb;clear qc;clear HB;clear qi;have qa:=qs;have qb:=qt;have qc:=qu;have HB:=qx;have HO218:=yc;clear qs qt qu qx yc;clear ho hb hg hat))
                         go_roundg kj90
                         case measure=>have:=HK1.out;have:=yi.out;have:=yq.out;have:=HJ47.out;have:=HJ63.out;have:=HK6.out;have:=HJ90.out;omega
                         case rel=>exact⟨(y216),(t204),(qq),(qp),(by first|rfl|(simp;done)|(simp [*];done)),H',⟨by have:=HK1.out;have:=yi.out;have:=yq.out;have:=HJ47.out;have:=HJ63.out;have:=HK6.out;have:=HJ90.out;omega⟩,⟨by(with_reducible repeat(first|apply Kd.R_alloc|apply Kd.R_drewN|apply Kd.R_drew));exact Kd.R_mono HO218.out (fun _ hk=>trivial)⟩,⟨by(with_reducible repeat(first|refine blk_drewN ?_ _|refine blk_drew ?_|refine blk_alloc ?_ _));exact qa.out⟩,⟨by repeat(first|(with_reducible first|exact HB.out|apply below_alloc|apply pw_below_drewN|apply below_drew1|refine below_set ?_ qm.out|refine below_set ?_ qn.out|refine below_set ?_ qv.out)|exact HB.out)⟩⟩
                    ·rw [if_neg c90] at H
                     have c90b0:(t203.toList == ([]:List UInt8))=false:=beq_eq_false_iff_ne.mpr c90
                     have c90b1:(t203.toList != ([]:List UInt8))=true:=bne_iff_ne.mpr c90
                     have H':=Ka H
                     clear H
                     go_wp2_with (first|((with_reducible refine gate_callee (f:=30) rfl ?_);refine goesL_ (some 121) rfl rfl Tryd.func30 (by kernel_rfl) rfl #[.string a0,.int .i64 yb] rfl (by(try simp only [List.map_toArray,List.map_cons,List.map_nil]);first|done|rfl|(simp only [List.length_drop,List.length_take];rfl)) ?_;(with_reducible refine(spec_l12Line.calls k6 a0 yb t203 t204 true _ A88.out).mono ?_);rintro e w' ⟨rfl,⟨nd,rfl⟩⟩;refine⟨_,rfl,?_⟩))
                     go_roundg k6
                     case measure=>have:=HK1.out;have:=yi.out;have:=yq.out;have:=HJ47.out;have:=HJ63.out;have:=HK6.out;omega
                     case rel=>exact⟨(t204),(qq),(qp),(by first|rfl|(simp;done)|(simp [*];done)),H',⟨by have:=HK1.out;have:=yi.out;have:=yq.out;have:=HJ47.out;have:=HJ63.out;have:=HK6.out;omega⟩,⟨by(with_reducible repeat(first|apply Kd.R_alloc|apply Kd.R_drewN|apply Kd.R_drew));exact qi.out⟩,⟨by(with_reducible repeat(first|refine blk_drewN ?_ _|refine blk_drew ?_|refine blk_alloc ?_ _));exact qa.out⟩,⟨by(with_reducible repeat(first|refine blk_drewN ?_ _|refine blk_drew ?_|refine blk_alloc ?_ _));exact qb.out⟩,⟨by(with_reducible repeat(first|refine blk_drewN ?_ _|refine blk_drew ?_|refine blk_alloc ?_ _));exact qc.out⟩,⟨by repeat(first|(with_reducible first|exact HB.out|apply below_alloc|apply pw_below_drewN|apply below_drew1|refine below_set ?_ qm.out|refine below_set ?_ qn.out|refine below_set ?_ qv.out)|exact HB.out)⟩⟩
                   ·replace c89:=Bool.eq_false_iff.mpr c89
                    subst c89
                    have H1:(some ((([]:List (S40))),5,(qd.length:Int)))=some (r1,r2,r3):=by rw [if_neg (show ¬ (false=true) by decide)] at H;exact H
                    clear H
                    have H:=H1
                    clear H1
                    obtain⟨y206,hy206⟩:∃ y_:List (S40),y_=(([]:List (S40))):=⟨_,rfl⟩
                    replace H:(some (y206,5,(qd.length:Int)))=some (r1,r2,r3):=by first|(rw [hy206];with_reducible exact H)|(have yf:=(Option.bind_some _ _).symm.trans H;rw [hy206];with_reducible exact yf)|(have yf:=(Option.bind_some _ _).symm.trans H;with_reducible exact yf)|with_reducible exact H|(rw [hy206];exact H)|exact H
                    have Ny206:=Ka hy206
                    clear hy206
                    simp only [Option.some.injEq,Prod.mk.injEq] at H
                    obtain⟨rfl,rfl,rfl⟩:=H
                    try go_wp2_with (first|((with_reducible refine gate_callee (f:=30) rfl ?_);refine goesL_ (some 121) rfl rfl Tryd.func30 (by kernel_rfl) rfl #[.string a0,.int .i64 yb] rfl (by(try simp only [List.map_toArray,List.map_cons,List.map_nil]);first|done|rfl|(simp only [List.length_drop,List.length_take];rfl)) ?_;(with_reducible refine(spec_l12Line.calls k6 a0 yb t203 t204 false _ A88.out).mono ?_);rintro e w' ⟨rfl,⟨nd,rfl⟩⟩;refine⟨_,rfl,?_⟩;(try(rw [drewN_self wr];generalize hq_:World.drewN wr _=wr;have qs:Aside0 (Kd.R k40 40 wr w.heap.size (fun k_=>k_≠qj) (.slice yh qd.length yj) qd):=⟨by rw [← hq_];exact(by(with_reducible repeat(first|apply Kd.R_alloc|apply Kd.R_drewN|apply Kd.R_drew));exact qi.out)⟩;have qt:Aside0 (wr.heap[qe]? = some (.cells #[.int .i64 qq,.int .i64 qp] 30 (0,0))):=⟨by rw [← hq_];exact(by(with_reducible repeat(first|refine blk_drewN ?_ _|refine blk_drew ?_|refine blk_alloc ?_ _));exact qa.out)⟩;have qu:Aside0 (wr.heap[qg]? = some (.cells #[.int .i64 5,.int .i64 (qd.length:Int)] 30 (0,0))):=⟨by rw [← hq_];exact(by(with_reducible repeat(first|refine blk_drewN ?_ _|refine blk_drew ?_|refine blk_alloc ?_ _));exact qb.out)⟩;have qx:Aside0 (wr.heap[qj]? = some (.cells #[.int .i64 qr,.int .i64 qy,.string (⟨#[]⟩:ByteArray)] 40 (0,0))):=⟨by rw [← hq_];exact(by(with_reducible repeat(first|refine blk_drewN ?_ _|refine blk_drew ?_|refine blk_alloc ?_ _));exact qc.out)⟩;have yc:Aside0 (Below w.heap.size w wr):=⟨by rw [← hq_];exact(by repeat(first|(with_reducible first|exact HB.out|apply below_alloc|apply pw_below_drewN|apply below_drew1|refine below_set ?_ qm.out|refine below_set ?_ qn.out|refine below_set ?_ qv.out)|exact HB.out))⟩;clear qi qa qb qc HB hq_;have qi:=qs;have qa:=qt;have qb:=qu;have qc:=qx;have HB:=yc;clear qs qt qu qx yc))))
                    have qs:=Ka (Kd.R_drew qi.out)
                    have qt:=Ka (blk_drew qa.out)
                    have qu:=Ka (blk_drew qb.out)
                    have qx:=Ka (blk_drew qc.out)
                    have yc:=Ka (below_drew1 HB.out)
                    clear qi qa
                    clear qb qc
                    clear HB
                    have qi:=qs
                    have qa:=qt
                    have qb:=qu
                    have qc:=qx
                    have HB:=yc
                    clear qs qt qu qx yc
                    refine start_ (n:=4) (S:=fun w'=>w'.cell? ⟨qg,0,none⟩=some (.int .i64 5)∧w'.cell? ⟨qg,1,none⟩=some (.int .i64 (qd.length:Int))) (ds:=[]) #[false,false,false,false] (by kernel_rfl) rfl rfl ⟨(blk_cell qb.out 0).trans rfl,(blk_cell qb.out 1).trans rfl⟩ (fun hHeld=>?_)
                    generalize wr.drew=w123 at qi qa qb qc HB hHeld ⊢
                    refine take_ (i:=1) (N:=some 128) (v:=?_) (a':=?_) (bm 4 2) rfl rfl (by kernel_rfl) (fun _ _ _ h=>h) (Or.inl ⟨by rfl,?_⟩) hHeld ?_ ?_;rotate_left;(rintro w' ⟨s0,s1⟩;go_simp;with_reducible rfl);rotate_left;(simp only[pw];rfl)
                    refine one_ (i:=0) (N:=some 127) (bm 4 3) rfl rfl (by kernel_rfl) (by decide) (fun K hK=>?_)
                    refine Kd.R_lit_step k40 _ 40 ?hg (N:=127) ?hd (xs:=([]:List (S40))) (inner:=[]) (ok:=fun _=>True) (okp:=fun _=>True) ?hr ?hp (fun _ hk=>hk) trivial (Below.refl _ _) (Nat.le_refl _) (by simp) ?_;(case hd=>rfl);(case hg=>rfl);(case hr=>first|(go_simp;done)|(go_simp;rfl));(case hp=>exact(Reps.none _ _))
                    intro v207 w124 ho125 hb hg_ hnew_
                    clear hg_ hnew_
                    (first|rw [← Ny206.out] at ho125|(simp only [Int.reduceToNat] at ho125;rw [← Ny206.out] at ho125))
                    have qs:=Ka (Kd.R_elder' (by(with_reducible repeat(first|apply Kd.R_alloc|apply Kd.R_drewN|apply Kd.R_drew));exact qi.out) (Kd.R_base ho125) hb)
                    have qt:=Ka (Kd.R_lower (Kd.R_newB (Kd.R_new' ho125 (Kd.R_lt (by(with_reducible repeat(first|apply Kd.R_alloc|apply Kd.R_drewN|apply Kd.R_drew));exact qi.out))) (g:=qj) (o:=.cells #[.int .i64 qr,.int .i64 qy,.string (⟨#[]⟩:ByteArray)] 40 (0,0)) (by(with_reducible repeat(first|refine blk_drewN ?_ _|refine blk_drew ?_|refine blk_alloc ?_ _));exact qc.out)) (below_size (by repeat(first|(with_reducible first|exact HB.out|apply below_alloc|apply pw_below_drewN|apply below_drew1|refine below_set ?_ qm.out|refine below_set ?_ qn.out|refine below_set ?_ qv.out)|exact HB.out))))
                    have qu:=Ka (blk_below (g:=qe) (o:=.cells #[.int .i64 qq,.int .i64 qp] 30 (0,0)) (by(with_reducible repeat(first|refine blk_drewN ?_ _|refine blk_drew ?_|refine blk_alloc ?_ _));exact qa.out) hb)
                    have qx:=Ka (blk_below (g:=qg) (o:=.cells #[.int .i64 5,.int .i64 (qd.length:Int)] 30 (0,0)) (by(with_reducible repeat(first|refine blk_drewN ?_ _|refine blk_drew ?_|refine blk_alloc ?_ _));exact qb.out) hb)
                    have yc:=Ka (blk_below (g:=qj) (o:=.cells #[.int .i64 qr,.int .i64 qy,.string (⟨#[]⟩:ByteArray)] 40 (0,0)) (by(with_reducible repeat(first|refine blk_drewN ?_ _|refine blk_drew ?_|refine blk_alloc ?_ _));exact qc.out) hb)
                    have yt:=Ka (below_step (by repeat(first|(with_reducible first|exact HB.out|apply below_alloc|apply pw_below_drewN|apply below_drew1|refine below_set ?_ qm.out|refine below_set ?_ qn.out|refine below_set ?_ qv.out)|exact HB.out)) hb)
                    clear qi qa
                    clear qb qc
                    clear HB
                    have qi:=qs
                    have HO208:=qt
                    have qa:=qu
                    have qb:=qx
                    have qc:=yc
                    have HB:=yt
                    clear qs qt qu qx yc yt
                    clear hb ho125
                    refine hK.out _ _ ⟨(blk_cell qb.out 0).trans rfl,(blk_cell qb.out 1).trans rfl⟩ (fun hHeld=>?_)
                    clear hK K
                    refine norm_ (a':=?_) ?_ ?_;rotate_left;(show Act.put _ (some 127) _=_;simp only[pw];rfl)
                    refine pure_ (i:=2) (N:=some 2) (v:=?_) (a':=?_) (bm 4 7) rfl rfl (by kernel_rfl) (fun _ _ _ h=>h) (Or.inl ⟨by rfl,?_⟩) ?_ ?_;rotate_left;(intro w';go_simp;with_reducible rfl);rotate_left;(simp only[pw];rfl)
                    refine one_ (i:=3) (N:=none) (bm 4 15) rfl rfl (by kernel_rfl) (by decide) (fun K hK=>?_)
                    have hs126:w124.cell? ⟨qe,0,none⟩=some (.int .i64 qq):=(blk_cell qa.out 0).trans rfl
                    have hfs126:=blk_frozen qa.out 0
                    have hns126_1:=qf.out
                    have hns126_2:=ya.out
                    have hms126_1:=ql.out
                    have hms126_2:=qo.out
                    have hs127:w124.cell? ⟨qe,1,none⟩=some (.int .i64 qp):=(blk_cell qa.out 1).trans rfl
                    have hfs127:=blk_frozen qa.out 1
                    have hns127_1:=qf.out
                    have hns127_2:=ya.out
                    have hms127_1:=ql.out
                    have hms127_2:=qo.out
                    refine skip_ (w1:=?_) (by rfl) rfl ?_ ?_
                    rotate_left
                    ·go_simp
                     rfl
                    refine hK.out _ _ ⟨((cell_far (p:=⟨qe,_,none⟩) qf.out _).trans (((cell_far (p:=⟨qe,_,none⟩) qf.out _).trans (hHeld.1)))),((cell_far (p:=⟨qe,_,none⟩) qf.out _).trans (((cell_far (p:=⟨qe,_,none⟩) qf.out _).trans (hHeld.2))))⟩ (fun hHeld=>?_)
                    clear hK K
                    refine done_ (by kernel_rfl) ?_
                    try go_wp2
                    refine bodyPost_ret (results_tc rfl _ _ qe 30 #[.int .i64 5,.int .i64 (qd.length:Int)] (0,0) _ rfl (by(with_reducible repeat(first|refine blk_drewN ?_ _|refine blk_drew ?_|refine blk_alloc ?_ _));refine blk_put (cs:=#[.int .i64 5,.int .i64 qp]) ?_ 1 _ rfl;(with_reducible repeat(first|refine blk_drewN ?_ _|refine blk_drew ?_|refine blk_alloc ?_ _));refine blk_put (cs:=#[.int .i64 qq,.int .i64 qp]) ?_ 0 _ rfl;(with_reducible repeat(first|refine blk_drewN ?_ _|refine blk_drew ?_|refine blk_alloc ?_ _));exact qa.out) Tryd.underlying30 rfl (by kernel_rfl)) rfl ?_
                    exact⟨_,by first|rfl|(simp [errW_none,errW_some] <;> rfl)|(simp [*,errW_none,errW_some] <;> rfl),by(with_reducible repeat(first|apply Kd.R_alloc|apply Kd.R_drewN|apply Kd.R_drew));exact Kd.R_mono (Kd.R_far (p:=⟨qe,1,none⟩) (Kd.R_far (p:=⟨qe,0,none⟩) (Kd.R_types HO208.out qa.out (by decide)) (fun _ hk=>hk.2) (.int .i64 5)) (fun _ hk=>hk.2) (.int .i64 (qd.length:Int))) (fun _ hk=>trivial),by repeat(first|(with_reducible first|exact HB.out|apply below_alloc|apply pw_below_drewN|apply below_drew1|refine below_set ?_ qm.out|refine below_set ?_ qn.out|refine below_set ?_ qv.out)|exact HB.out)⟩
    ·rw [if_neg c10] at H
     have c10b0:=decide_eq_false c10
     clear c10
     simp only [Option.some.injEq,Prod.mk.injEq] at H
     obtain⟨rfl,rfl,rfl⟩:=H
     have hcz128_0:wr.cell? ⟨qe,0,none⟩=some (.int .i64 qk):=(blk_cell qa.out 0).trans rfl
     have hcz128_1:wr.cell? ⟨qe,1,none⟩=some (.int .i64 qh):=(blk_cell qa.out 1).trans rfl
     have hfz128_0:=blk_frozen qa.out 0
     have hfz128_1:=blk_frozen qa.out 1
     go_wp2
     refine bodyPost_ret (results_tc rfl _ _ qe 30 #[.int .i64 0,.int .i64 0] (0,0) _ rfl (by(with_reducible repeat(first|refine blk_drewN ?_ _|refine blk_drew ?_|refine blk_alloc ?_ _));refine blk_put (cs:=#[.int .i64 0,.int .i64 qh]) ?_ 1 _ rfl;(with_reducible repeat(first|refine blk_drewN ?_ _|refine blk_drew ?_|refine blk_alloc ?_ _));refine blk_put (cs:=#[.int .i64 qk,.int .i64 qh]) ?_ 0 _ rfl;(with_reducible repeat(first|refine blk_drewN ?_ _|refine blk_drew ?_|refine blk_alloc ?_ _));exact qa.out) Tryd.underlying30 rfl (by kernel_rfl)) rfl ?_
     exact⟨_,by first|rfl|(simp [errW_none,errW_some] <;> rfl)|(simp [*,errW_none,errW_some] <;> rfl),by(with_reducible repeat(first|apply Kd.R_alloc|apply Kd.R_drewN|apply Kd.R_drew));exact Kd.R_mono (Kd.R_far (p:=⟨qe,1,none⟩) (Kd.R_far (p:=⟨qe,0,none⟩) (Kd.R_types qi.out qa.out (by decide)) (fun _ hk=>hk.2) (.int .i64 0)) (fun _ hk=>hk.2) (.int .i64 0)) (fun _ hk=>trivial),by repeat(first|(with_reducible first|exact HB.out|apply below_alloc|apply pw_below_drewN|apply below_drew1|refine below_set ?_ qm.out)|exact HB.out)⟩

end Go.Proofs.YtidogkjhjmcliaaDoor.HFnTitlesBack
