/-
 DERIVED: THE SHELF's CONTRACTS AT THIS DUMP, IN PLAIN WORDS (tools/lay-plain.mjs out of 'TrydShelf.lean', which tools/lay-shelf.mjs wrote): THE SAME DECLARATIONS UNDER THE SAME NAMES: 'import', 'namespace', 'open', 'def', 'theorem' AND NOTHING ELSE: no command of the shelf's: FOR A HAND-IN. Each laying: the table of numbers ('.._ren') and one theorem, a field a fact of the dump's own or the kernel's comparison; each contract: ONE APPLICATION.
-/
import Derived.Shelf.Strings.Builder1
import Derived.Shelf.Strings.Builder2
import Derived.Shelf.Strings.BuilderF
import Derived.Shelf.Strings.BuilderK
import Derived.Shelf.Strings.Builder2Cap
import Derived.Shelf.Strconv.Itoa0
import Derived.Shelf.Strconv.Itoa1
import Derived.Shelf.LaysM
import Derived.Shelf.Strconv.Itoa2
import Derived.Shelf.Strconv.Itoa3
import Derived.Shelf.Strconv.Itoa4
import Derived.Shelf.Strings.Search1
import Derived.Shelf.Strings.Search2
import Derived.Shelf.Strings.Search3
import Derived.Shelf.Strings.Cut
import Derived.Shelf.Strings.Shaped
import Derived.Shelf.Strings.Prefix
import Derived.Shelf.Bits.Mul64
import Derived.Shelf.Strings.Repeat
import Derived.Shelf.Strings.BuilderCap
import Derived.Test.YtidogkjhjmcliaaDoorProg
namespace Go.Proofs
open Go.Shelf
def Tryd.lays170_ren : Go.Shelf.Ren := ⟨fun | 170 => 69 | n => n, fun | 70 => 47 | 3 => 3 | 0 => 0 | 72 => 49 | 37 => 36 | 5 => 5 | n => n, fun | n => n⟩
def Tryd.lays169_ren : Go.Shelf.Ren := ⟨fun | 169 => 28 | n => n, fun | 70 => 47 | 9 => 9 | 0 => 0 | 72 => 49 | 37 => 36 | 127 => 69 | 3 => 3 | 5 => 5 | n => n, fun | n => n⟩
theorem Tryd.lays169 : Go.Proofs.Lays.n169 Tryd.prog Tryd.lays169_ren := {
 mixed:=by kernel_rfl
 f169:=Tryd.func28.trans (congrArg some (by kernel_rfl))
 t0:=Tryd.underlying0
 a0:=Tryd.isAgg0
 z0:=Tryd.sizeOf0
 v0:=Tryd.zeroValue0
 t3:=Tryd.underlying3
 a3:=Tryd.isAgg3
 z3:=Tryd.sizeOf3
 v3:=Tryd.zeroValue3
 t9:=Tryd.underlying9
 a9:=Tryd.isAgg9
 z9:=Tryd.sizeOf9
 v9:=Tryd.zeroValue9
 t37:=Tryd.underlying36
 a37:=Tryd.isAgg36
 z37:=Tryd.sizeOf36
 v37:=Tryd.zeroValue36
 t70:=Tryd.underlying47
 a70:=Tryd.isAgg47
 z70:=Tryd.sizeOf47
 v70:=Tryd.zeroValue47
 t72:=Tryd.underlying49
 a72:=Tryd.isAgg49
 z72:=Tryd.sizeOf49
 v72:=Tryd.zeroValue49
 t127:=Tryd.underlying69
 a127:=Tryd.isAgg69
 z127:=Tryd.sizeOf69
 v127:=Tryd.zeroValue69 }
theorem Tryd.Builder_Extra_169 : Builder.Extra Tryd.prog Tryd.lays169_ren := {
 sizeBuilder:=by kernel_rfl
 liesBuilder:=by kernel_rfl
 t5:=Tryd.underlying5
 a5:=Tryd.isAgg5
 z5:=Tryd.sizeOf5
 v5:=Tryd.zeroValue5
 infoByte:=by kernel_rfl
 cellsByte:=by kernel_rfl
 sizeByte:=by kernel_rfl
 neB5:=by decide }
open Go.RowKit in
theorem Tryd.Builder_String_any (B b : Nat) (l : List UInt8) (w : World) (h : Lib.IsBuilder 49 5 B b (Lib.byteCells l) w) (hBw : B ≤ w.heap.size) :
  Calls Tryd.prog 28 #[.pointer (some ⟨b,0,none⟩)] w fun e w'=>e=.returned (.string ⟨l.toArray⟩)∧Below B w w':=Any.Builder_String_any Tryd.lays169 Tryd.Builder_Extra_169 B b l w h hBw
def Tryd.lays241_ren : Go.Shelf.Ren := ⟨fun | 241 => 78 | 277 => 85 | n => n, fun | 70 => 47 | 3 => 3 | 0 => 0 | 72 => 49 | 37 => 36 | 5 => 5 | n => n, fun | n => n⟩
def Tryd.lays165_ren : Go.Shelf.Ren := ⟨fun | 165 => 68 | 240 => 42 | 241 => 78 | 276 => 54 | 277 => 85 | n => n, fun | 70 => 47 | 3 => 3 | 0 => 0 | 4 => 4 | 9 => 9 | 20 => 20 | 72 => 49 | 37 => 36 | 164 => 82 | 5 => 5 | n => n, fun | n => n⟩
def Tryd.lays129_ren : Go.Shelf.Ren := ⟨fun | 129 => 72 | n => n, fun | 53 => 88 | 3 => 3 | 4 => 4 | 46 => 86 | 5 => 5 | 9 => 9 | n => n, fun | n => n⟩
def Tryd.lays317_ren : Go.Shelf.Ren := ⟨fun | 317 => 71 | n => n, fun | 3 => 3 | 46 => 86 | n => n, fun | n => n⟩
def Tryd.lays318_ren : Go.Shelf.Ren := ⟨fun | 318 => 73 | n => n, fun | 3 => 3 | 4 => 4 | n => n, fun | n => n⟩
def Tryd.lays283_ren : Go.Shelf.Ren := ⟨fun | 283 => 63 | n => n, fun | 3 => 3 | 9 => 9 | 4 => 4 | n => n, fun | n => n⟩
def Tryd.laysM284_ren : Go.Shelf.Ren := ⟨fun | 284 => 64 | 129 => 72 | 317 => 71 | 318 => 73 | n => n, fun | 53 => 88 | 3 => 3 | 212 => 99 | 0 => 0 | 4 => 4 | 46 => 86 | 5 => 5 | 9 => 9 | n => n, fun | 17 => 0 | n => n⟩
def Tryd.lays285_ren : Go.Shelf.Ren := ⟨fun | 285 => 65 | n => n, fun | 37 => 36 | 53 => 88 | 3 => 3 | 4 => 4 | 51 => 100 | 9 => 9 | 5 => 5 | 0 => 0 | n => n, fun | n => n⟩
def Tryd.laysM246_ren : Go.Shelf.Ren := ⟨fun | 246 => 55 | 283 => 63 | 284 => 64 | 285 => 65 | 286 => 66 | 129 => 72 | 317 => 71 | 318 => 73 | 319 => 74 | 320 => 75 | 337 => 83 | 338 => 84 | n => n, fun | 2 => 2 | 3 => 3 | 9 => 9 | 4 => 4 | 171 => 87 | 0 => 0 | 53 => 88 | 37 => 36 | 5 => 5 | 173 => 91 | 212 => 99 | 51 => 100 | 20 => 20 | 213 => 101 | 46 => 86 | 232 => 112 | 233 => 113 | n => n, fun | 17 => 0 | 18 => 2 | 19 => 3 | n => n⟩
def Tryd.lays246_ren : Go.Shelf.Ren := ⟨fun | 246 => 55 | 283 => 63 | 284 => 64 | 285 => 65 | 286 => 66 | 129 => 72 | 317 => 71 | 318 => 73 | 319 => 74 | 320 => 75 | 337 => 83 | 338 => 84 | n => n, fun | 2 => 2 | 3 => 3 | 9 => 9 | 4 => 4 | 171 => 87 | 0 => 0 | 53 => 88 | 37 => 36 | 5 => 5 | 173 => 91 | 212 => 99 | 51 => 100 | 20 => 20 | 213 => 101 | 46 => 86 | 232 => 112 | 233 => 113 | n => n, fun | 17 => 0 | 18 => 2 | 19 => 3 | n => n⟩
def Tryd.laysM243_ren : Go.Shelf.Ren := ⟨fun | 243 => 43 | 246 => 55 | 283 => 63 | 284 => 64 | 285 => 65 | 286 => 66 | 129 => 72 | 317 => 71 | 318 => 73 | 319 => 74 | 320 => 75 | 337 => 83 | 338 => 84 | n => n, fun | 3 => 3 | 9 => 9 | 2 => 2 | 4 => 4 | 171 => 87 | 0 => 0 | 53 => 88 | 37 => 36 | 5 => 5 | 173 => 91 | 212 => 99 | 51 => 100 | 20 => 20 | 213 => 101 | 46 => 86 | 232 => 112 | 233 => 113 | n => n, fun | 17 => 0 | 18 => 2 | 19 => 3 | n => n⟩
def Tryd.lays243_ren : Go.Shelf.Ren := ⟨fun | 243 => 43 | 246 => 55 | 283 => 63 | 284 => 64 | 285 => 65 | 286 => 66 | 129 => 72 | 317 => 71 | 318 => 73 | 319 => 74 | 320 => 75 | 337 => 83 | 338 => 84 | n => n, fun | 3 => 3 | 9 => 9 | 2 => 2 | 4 => 4 | 171 => 87 | 0 => 0 | 53 => 88 | 37 => 36 | 5 => 5 | 173 => 91 | 212 => 99 | 51 => 100 | 20 => 20 | 213 => 101 | 46 => 86 | 232 => 112 | 233 => 113 | n => n, fun | 17 => 0 | 18 => 2 | 19 => 3 | n => n⟩
def Tryd.laysM171_ren : Go.Shelf.Ren := ⟨fun | 171 => 26 | 243 => 43 | 246 => 55 | 283 => 63 | 284 => 64 | 285 => 65 | 286 => 66 | 129 => 72 | 317 => 71 | 318 => 73 | 319 => 74 | 320 => 75 | 337 => 83 | 338 => 84 | n => n, fun | 3 => 3 | 9 => 9 | 2 => 2 | 4 => 4 | 171 => 87 | 0 => 0 | 53 => 88 | 37 => 36 | 5 => 5 | 173 => 91 | 212 => 99 | 51 => 100 | 20 => 20 | 213 => 101 | 46 => 86 | 232 => 112 | 233 => 113 | n => n, fun | 17 => 0 | 18 => 2 | 19 => 3 | n => n⟩
theorem Tryd.laysM171 : Go.Proofs.LaysM.n171 Tryd.prog Tryd.laysM171_ren := {
 mixed:=by kernel_rfl
 f129:=Tryd.func72.trans (congrArg some (by kernel_rfl))
 f171:=Tryd.func26.trans (congrArg some (by kernel_rfl))
 f243:=Tryd.func43.trans (congrArg some (by kernel_rfl))
 f246:=Tryd.func55.trans (congrArg some (by kernel_rfl))
 f283:=Tryd.func63.trans (congrArg some (by kernel_rfl))
 f284:=Tryd.func64.trans (congrArg some (by kernel_rfl))
 f285:=Tryd.func65.trans (congrArg some (by kernel_rfl))
 f286:=Tryd.func66.trans (congrArg some (by kernel_rfl))
 f317:=Tryd.func71.trans (congrArg some (by kernel_rfl))
 f318:=Tryd.func73.trans (congrArg some (by kernel_rfl))
 f319:=Tryd.func74.trans (congrArg some (by kernel_rfl))
 f320:=Tryd.func75.trans (congrArg some (by kernel_rfl))
 f337:=Tryd.func83.trans (congrArg some (by kernel_rfl))
 f338:=Tryd.func84.trans (congrArg some (by kernel_rfl))
 t0:=Tryd.underlying0
 a0:=Tryd.isAgg0
 z0:=Tryd.sizeOf0
 v0:=Tryd.zeroValue0
 t2:=Tryd.underlying2
 a2:=Tryd.isAgg2
 z2:=Tryd.sizeOf2
 v2:=Tryd.zeroValue2
 t3:=Tryd.underlying3
 a3:=Tryd.isAgg3
 z3:=Tryd.sizeOf3
 v3:=Tryd.zeroValue3
 t4:=Tryd.underlying4
 a4:=Tryd.isAgg4
 z4:=Tryd.sizeOf4
 v4:=Tryd.zeroValue4
 t5:=Tryd.underlying5
 a5:=Tryd.isAgg5
 z5:=Tryd.sizeOf5
 v5:=Tryd.zeroValue5
 t9:=Tryd.underlying9
 a9:=Tryd.isAgg9
 z9:=Tryd.sizeOf9
 v9:=Tryd.zeroValue9
 t20:=Tryd.underlying20
 a20:=Tryd.isAgg20
 z20:=Tryd.sizeOf20
 v20:=Tryd.zeroValue20
 t37:=Tryd.underlying36
 a37:=Tryd.isAgg36
 z37:=Tryd.sizeOf36
 v37:=Tryd.zeroValue36
 t46:=Tryd.underlying86
 a46:=Tryd.isAgg86
 z46:=Tryd.sizeOf86
 v46:=Tryd.zeroValue86
 t51:=Tryd.underlying100
 a51:=Tryd.isAgg100
 z51:=Tryd.sizeOf100
 v51:=Tryd.zeroValue100
 t53:=Tryd.underlying88
 a53:=Tryd.isAgg88
 z53:=Tryd.sizeOf88
 v53:=Tryd.zeroValue88
 t171:=Tryd.underlying87
 a171:=Tryd.isAgg87
 z171:=Tryd.sizeOf87
 v171:=Tryd.zeroValue87
 t173:=Tryd.underlying91
 a173:=Tryd.isAgg91
 z173:=Tryd.sizeOf91
 v173:=Tryd.zeroValue91
 t212:=Tryd.underlying99
 a212:=Tryd.isAgg99
 z212:=Tryd.sizeOf99
 v212:=Tryd.zeroValue99
 t213:=Tryd.underlying101
 a213:=Tryd.isAgg101
 z213:=Tryd.sizeOf101
 t232:=Tryd.underlying112
 a232:=Tryd.isAgg112
 z232:=Tryd.sizeOf112
 v232:=Tryd.zeroValue112
 t233:=Tryd.underlying113
 a233:=Tryd.isAgg113
 z233:=Tryd.sizeOf113
 v233:=Tryd.zeroValue113
 g17:=by kernel_rfl
 g18:=by kernel_rfl
 g19:=by kernel_rfl
 i0:=by kernel_rfl
 i2:=by kernel_rfl
 i3:=by kernel_rfl
 i4:=by kernel_rfl
 i5:=by kernel_rfl
 i9:=by kernel_rfl
 i20:=by kernel_rfl
 i37:=by kernel_rfl
 i46:=by kernel_rfl
 i51:=by kernel_rfl
 i53:=by kernel_rfl
 i171:=by kernel_rfl
 i173:=by kernel_rfl
 i212:=by kernel_rfl
 i232:=by kernel_rfl
 i233:=by kernel_rfl
 m17:=by kernel_rfl
 m18:=by kernel_rfl
 m19:=by kernel_rfl }
open Go.RowKit Go.Sort Go.Lib in
theorem Tryd.strconv_Itoa (n : Int) (h0 : -9223372036854775808 ≤ n) (h1 : n ≤ 9223372036854775807) (w : World) (htab : Lib.TabIs Tryd.prog w "internal/strconv.uint64pow10" .u64 Lib.pow10Tab) :
  Calls Tryd.prog 26 #[.int .i64 n] w fun e w'=>e=.returned (.string ⟨(Lib.itoa n).toArray⟩) ∧ ∃ k os,w'=grow (w.drewN k) os:=Any.strconv_Itoa Tryd.laysM171 n h0 h1 w htab
def Tryd.lays171_ren : Go.Shelf.Ren := ⟨fun | 171 => 26 | 243 => 43 | 246 => 55 | 283 => 63 | 284 => 64 | 285 => 65 | 286 => 66 | 129 => 72 | 317 => 71 | 318 => 73 | 319 => 74 | 320 => 75 | 337 => 83 | 338 => 84 | n => n, fun | 3 => 3 | 9 => 9 | 2 => 2 | 4 => 4 | 171 => 87 | 0 => 0 | 53 => 88 | 37 => 36 | 5 => 5 | 173 => 91 | 212 => 99 | 51 => 100 | 20 => 20 | 213 => 101 | 46 => 86 | 232 => 112 | 233 => 113 | n => n, fun | 17 => 0 | 18 => 2 | 19 => 3 | n => n⟩
def Tryd.laysM173_ren : Go.Shelf.Ren := ⟨fun | 173 => 56 | 246 => 55 | 283 => 63 | 284 => 64 | 285 => 65 | 286 => 66 | 129 => 72 | 317 => 71 | 318 => 73 | 319 => 74 | 320 => 75 | 337 => 83 | 338 => 84 | n => n, fun | 2 => 2 | 3 => 3 | 9 => 9 | 4 => 4 | 171 => 87 | 0 => 0 | 53 => 88 | 37 => 36 | 5 => 5 | 173 => 91 | 212 => 99 | 51 => 100 | 20 => 20 | 213 => 101 | 46 => 86 | 232 => 112 | 233 => 113 | n => n, fun | 17 => 0 | 18 => 2 | 19 => 3 | n => n⟩
theorem Tryd.laysM173 : Go.Proofs.LaysM.n173 Tryd.prog Tryd.laysM173_ren := {
 mixed:=by kernel_rfl
 f129:=Tryd.func72.trans (congrArg some (by kernel_rfl))
 f173:=Tryd.func56.trans (congrArg some (by kernel_rfl))
 f246:=Tryd.func55.trans (congrArg some (by kernel_rfl))
 f283:=Tryd.func63.trans (congrArg some (by kernel_rfl))
 f284:=Tryd.func64.trans (congrArg some (by kernel_rfl))
 f285:=Tryd.func65.trans (congrArg some (by kernel_rfl))
 f286:=Tryd.func66.trans (congrArg some (by kernel_rfl))
 f317:=Tryd.func71.trans (congrArg some (by kernel_rfl))
 f318:=Tryd.func73.trans (congrArg some (by kernel_rfl))
 f319:=Tryd.func74.trans (congrArg some (by kernel_rfl))
 f320:=Tryd.func75.trans (congrArg some (by kernel_rfl))
 f337:=Tryd.func83.trans (congrArg some (by kernel_rfl))
 f338:=Tryd.func84.trans (congrArg some (by kernel_rfl))
 t0:=Tryd.underlying0
 a0:=Tryd.isAgg0
 z0:=Tryd.sizeOf0
 v0:=Tryd.zeroValue0
 t2:=Tryd.underlying2
 a2:=Tryd.isAgg2
 z2:=Tryd.sizeOf2
 v2:=Tryd.zeroValue2
 t3:=Tryd.underlying3
 a3:=Tryd.isAgg3
 z3:=Tryd.sizeOf3
 v3:=Tryd.zeroValue3
 t4:=Tryd.underlying4
 a4:=Tryd.isAgg4
 z4:=Tryd.sizeOf4
 v4:=Tryd.zeroValue4
 t5:=Tryd.underlying5
 a5:=Tryd.isAgg5
 z5:=Tryd.sizeOf5
 v5:=Tryd.zeroValue5
 t9:=Tryd.underlying9
 a9:=Tryd.isAgg9
 z9:=Tryd.sizeOf9
 v9:=Tryd.zeroValue9
 t20:=Tryd.underlying20
 a20:=Tryd.isAgg20
 z20:=Tryd.sizeOf20
 v20:=Tryd.zeroValue20
 t37:=Tryd.underlying36
 a37:=Tryd.isAgg36
 z37:=Tryd.sizeOf36
 v37:=Tryd.zeroValue36
 t46:=Tryd.underlying86
 a46:=Tryd.isAgg86
 z46:=Tryd.sizeOf86
 v46:=Tryd.zeroValue86
 t51:=Tryd.underlying100
 a51:=Tryd.isAgg100
 z51:=Tryd.sizeOf100
 v51:=Tryd.zeroValue100
 t53:=Tryd.underlying88
 a53:=Tryd.isAgg88
 z53:=Tryd.sizeOf88
 v53:=Tryd.zeroValue88
 t171:=Tryd.underlying87
 a171:=Tryd.isAgg87
 z171:=Tryd.sizeOf87
 v171:=Tryd.zeroValue87
 t173:=Tryd.underlying91
 a173:=Tryd.isAgg91
 z173:=Tryd.sizeOf91
 v173:=Tryd.zeroValue91
 t212:=Tryd.underlying99
 a212:=Tryd.isAgg99
 z212:=Tryd.sizeOf99
 v212:=Tryd.zeroValue99
 t213:=Tryd.underlying101
 a213:=Tryd.isAgg101
 z213:=Tryd.sizeOf101
 t232:=Tryd.underlying112
 a232:=Tryd.isAgg112
 z232:=Tryd.sizeOf112
 v232:=Tryd.zeroValue112
 t233:=Tryd.underlying113
 a233:=Tryd.isAgg113
 z233:=Tryd.sizeOf113
 v233:=Tryd.zeroValue113
 g17:=by kernel_rfl
 g18:=by kernel_rfl
 g19:=by kernel_rfl
 i0:=by kernel_rfl
 i2:=by kernel_rfl
 i3:=by kernel_rfl
 i4:=by kernel_rfl
 i5:=by kernel_rfl
 i9:=by kernel_rfl
 i20:=by kernel_rfl
 i37:=by kernel_rfl
 i46:=by kernel_rfl
 i51:=by kernel_rfl
 i53:=by kernel_rfl
 i171:=by kernel_rfl
 i173:=by kernel_rfl
 i212:=by kernel_rfl
 i232:=by kernel_rfl
 i233:=by kernel_rfl
 m17:=by kernel_rfl
 m18:=by kernel_rfl
 m19:=by kernel_rfl }
open Go.RowKit Go.Sort Go.Lib in
theorem Tryd.strconv_FormatInt_10 (n : Int) (h0 : -9223372036854775808 ≤ n) (h1 : n ≤ 9223372036854775807) (w : World) (htab : Lib.TabIs Tryd.prog w "internal/strconv.uint64pow10" .u64 Lib.pow10Tab) :
  Calls Tryd.prog 56 #[.int .i64 n,.int .i64 10] w fun e w'=>e=.returned (.string ⟨(Lib.itoa n).toArray⟩) ∧ ∃ k os,w'=grow (w.drewN k) os:=Any.strconv_FormatInt_10 Tryd.laysM173 n h0 h1 w htab
def Tryd.lays173_ren : Go.Shelf.Ren := ⟨fun | 173 => 56 | 246 => 55 | 283 => 63 | 284 => 64 | 285 => 65 | 286 => 66 | 129 => 72 | 317 => 71 | 318 => 73 | 319 => 74 | 320 => 75 | 337 => 83 | 338 => 84 | n => n, fun | 2 => 2 | 3 => 3 | 9 => 9 | 4 => 4 | 171 => 87 | 0 => 0 | 53 => 88 | 37 => 36 | 5 => 5 | 173 => 91 | 212 => 99 | 51 => 100 | 20 => 20 | 213 => 101 | 46 => 86 | 232 => 112 | 233 => 113 | n => n, fun | 17 => 0 | 18 => 2 | 19 => 3 | n => n⟩
def Tryd.lays217_ren : Go.Shelf.Ren := ⟨fun | 217 => 79 | 266 => 86 | n => n, fun | 9 => 9 | 5 => 5 | 3 => 3 | n => n, fun | n => n⟩
def Tryd.lays224_ren : Go.Shelf.Ren := ⟨fun | 224 => 81 | n => n, fun | 3 => 3 | n => n, fun | n => n⟩
def Tryd.lays314_ren : Go.Shelf.Ren := ⟨fun | 314 => 87 | n => n, fun | 9 => 9 | 51 => 100 | 3 => 3 | 4 => 4 | 5 => 5 | 46 => 86 | n => n, fun | n => n⟩
def Tryd.lays267_ren : Go.Shelf.Ren := ⟨fun | 267 => 82 | 314 => 87 | n => n, fun | 9 => 9 | 3 => 3 | 146 => 104 | 51 => 100 | 4 => 4 | 5 => 5 | 46 => 86 | n => n, fun | n => n⟩
def Tryd.lays219_ren : Go.Shelf.Ren := ⟨fun | 219 => 70 | 217 => 79 | 225 => 80 | 224 => 81 | 267 => 82 | 266 => 86 | 314 => 87 | n => n, fun | 9 => 9 | 3 => 3 | 4 => 4 | 5 => 5 | 46 => 86 | 146 => 104 | 51 => 100 | n => n, fun | 1 => 1 | n => n⟩
def Tryd.lays143_ren : Go.Shelf.Ren := ⟨fun | 143 => 60 | 219 => 70 | 217 => 79 | 225 => 80 | 224 => 81 | 267 => 82 | 266 => 86 | 314 => 87 | n => n, fun | 9 => 9 | 3 => 3 | 4 => 4 | 5 => 5 | 46 => 86 | 146 => 104 | 51 => 100 | n => n, fun | 1 => 1 | n => n⟩
def Tryd.lays144_ren : Go.Shelf.Ren := ⟨fun | 144 => 48 | 143 => 60 | 219 => 70 | 217 => 79 | 225 => 80 | 224 => 81 | 267 => 82 | 266 => 86 | 314 => 87 | n => n, fun | 9 => 9 | 4 => 4 | 3 => 3 | 5 => 5 | 46 => 86 | 146 => 104 | 51 => 100 | n => n, fun | 1 => 1 | n => n⟩
theorem Tryd.lays144 : Go.Proofs.Lays.n144 Tryd.prog Tryd.lays144_ren := {
 mixed:=by kernel_rfl
 f143:=Tryd.func60.trans (congrArg some (by kernel_rfl))
 f144:=Tryd.func48.trans (congrArg some (by kernel_rfl))
 f217:=Tryd.func79.trans (congrArg some (by kernel_rfl))
 f219:=Tryd.func70.trans (congrArg some (by kernel_rfl))
 f224:=Tryd.func81.trans (congrArg some (by kernel_rfl))
 f225:=Tryd.func80.trans (congrArg some (by kernel_rfl))
 f266:=Tryd.func86.trans (congrArg some (by kernel_rfl))
 f267:=Tryd.func82.trans (congrArg some (by kernel_rfl))
 f314:=Tryd.func87.trans (congrArg some (by kernel_rfl))
 t3:=Tryd.underlying3
 a3:=Tryd.isAgg3
 z3:=Tryd.sizeOf3
 v3:=Tryd.zeroValue3
 t4:=Tryd.underlying4
 a4:=Tryd.isAgg4
 z4:=Tryd.sizeOf4
 v4:=Tryd.zeroValue4
 t5:=Tryd.underlying5
 a5:=Tryd.isAgg5
 z5:=Tryd.sizeOf5
 v5:=Tryd.zeroValue5
 t9:=Tryd.underlying9
 a9:=Tryd.isAgg9
 z9:=Tryd.sizeOf9
 v9:=Tryd.zeroValue9
 t46:=Tryd.underlying86
 a46:=Tryd.isAgg86
 z46:=Tryd.sizeOf86
 v46:=Tryd.zeroValue86
 t51:=Tryd.underlying100
 a51:=Tryd.isAgg100
 z51:=Tryd.sizeOf100
 v51:=Tryd.zeroValue100
 t146:=Tryd.underlying104
 a146:=Tryd.isAgg104
 z146:=Tryd.sizeOf104
 v146:=Tryd.zeroValue104
 g1:=by kernel_rfl }
open Go.RowKit Go.Lib in
theorem Tryd.strings_Contains (s sub : ByteArray) (m : Int) (w : World) (hs : s.size < 4294967281) (hm : w.cell? ⟨1, 0, none⟩ = some (.int .i64 m)) :
  Calls Tryd.prog 48 #[.string s,.string sub] w fun e w'=>e=.returned (.bool (Lib.contains s.data.toList sub.data.toList))∧w'=w:=Any.strings_Contains Tryd.lays144 s sub m w hs hm
def Tryd.lays220_ren : Go.Shelf.Ren := ⟨fun | 220 => 58 | 219 => 70 | 217 => 79 | 225 => 80 | 224 => 81 | 267 => 82 | 266 => 86 | 314 => 87 | n => n, fun | 9 => 9 | 4 => 4 | 3 => 3 | 5 => 5 | 46 => 86 | 146 => 104 | 51 => 100 | n => n, fun | 1 => 1 | n => n⟩
def Tryd.lays145_ren : Go.Shelf.Ren := ⟨fun | 145 => 46 | 220 => 58 | 219 => 70 | 217 => 79 | 225 => 80 | 224 => 81 | 267 => 82 | 266 => 86 | 314 => 87 | n => n, fun | 9 => 9 | 4 => 4 | 59 => 72 | 3 => 3 | 5 => 5 | 46 => 86 | 146 => 104 | 51 => 100 | n => n, fun | 1 => 1 | n => n⟩
theorem Tryd.lays145 : Go.Proofs.Lays.n145 Tryd.prog Tryd.lays145_ren := {
 mixed:=by kernel_rfl
 f145:=Tryd.func46.trans (congrArg some (by kernel_rfl))
 f217:=Tryd.func79.trans (congrArg some (by kernel_rfl))
 f219:=Tryd.func70.trans (congrArg some (by kernel_rfl))
 f220:=Tryd.func58.trans (congrArg some (by kernel_rfl))
 f224:=Tryd.func81.trans (congrArg some (by kernel_rfl))
 f225:=Tryd.func80.trans (congrArg some (by kernel_rfl))
 f266:=Tryd.func86.trans (congrArg some (by kernel_rfl))
 f267:=Tryd.func82.trans (congrArg some (by kernel_rfl))
 f314:=Tryd.func87.trans (congrArg some (by kernel_rfl))
 t3:=Tryd.underlying3
 a3:=Tryd.isAgg3
 z3:=Tryd.sizeOf3
 v3:=Tryd.zeroValue3
 t4:=Tryd.underlying4
 a4:=Tryd.isAgg4
 z4:=Tryd.sizeOf4
 v4:=Tryd.zeroValue4
 t5:=Tryd.underlying5
 a5:=Tryd.isAgg5
 z5:=Tryd.sizeOf5
 v5:=Tryd.zeroValue5
 t9:=Tryd.underlying9
 a9:=Tryd.isAgg9
 z9:=Tryd.sizeOf9
 v9:=Tryd.zeroValue9
 t46:=Tryd.underlying86
 a46:=Tryd.isAgg86
 z46:=Tryd.sizeOf86
 v46:=Tryd.zeroValue86
 t51:=Tryd.underlying100
 a51:=Tryd.isAgg100
 z51:=Tryd.sizeOf100
 v51:=Tryd.zeroValue100
 t59:=Tryd.underlying72
 a59:=Tryd.isAgg72
 z59:=Tryd.sizeOf72
 v59:=Tryd.zeroValue72
 t146:=Tryd.underlying104
 a146:=Tryd.isAgg104
 z146:=Tryd.sizeOf104
 v146:=Tryd.zeroValue104
 g1:=by kernel_rfl }
open Go.RowKit Go.Lib in
theorem Tryd.strings_Cut (s sep : ByteArray) (m : Int) (w : World) (hs : s.size < 4294967281) (hm : w.cell? ⟨1, 0, none⟩ = some (.int .i64 m)) :
  Calls Tryd.prog 46 #[.string s,.string sep] w fun e w'=>e=.returned (.tuple #[.string ⟨(Lib.cut s.data.toList sep.data.toList).1.toArray⟩,.string ⟨(Lib.cut s.data.toList sep.data.toList).2.1.toArray⟩,.bool (Lib.cut s.data.toList sep.data.toList).2.2]) ∧ ∃ n,w'=w.drewN n:=Any.strings_Cut Tryd.lays145 s sep m w hs hm
def Tryd.laysM219_ren : Go.Shelf.Ren := ⟨fun | 219 => 70 | 217 => 79 | 225 => 80 | 224 => 81 | 267 => 82 | 266 => 86 | 314 => 87 | n => n, fun | 9 => 9 | 3 => 3 | 4 => 4 | 5 => 5 | 46 => 86 | 146 => 104 | 51 => 100 | n => n, fun | 1 => 1 | n => n⟩
def Tryd.laysM143_ren : Go.Shelf.Ren := ⟨fun | 143 => 60 | 219 => 70 | 217 => 79 | 225 => 80 | 224 => 81 | 267 => 82 | 266 => 86 | 314 => 87 | n => n, fun | 9 => 9 | 3 => 3 | 4 => 4 | 5 => 5 | 46 => 86 | 146 => 104 | 51 => 100 | n => n, fun | 1 => 1 | n => n⟩
def Tryd.laysM144_ren : Go.Shelf.Ren := ⟨fun | 144 => 48 | 143 => 60 | 219 => 70 | 217 => 79 | 225 => 80 | 224 => 81 | 267 => 82 | 266 => 86 | 314 => 87 | n => n, fun | 9 => 9 | 4 => 4 | 3 => 3 | 5 => 5 | 46 => 86 | 146 => 104 | 51 => 100 | n => n, fun | 1 => 1 | n => n⟩
def Tryd.laysM220_ren : Go.Shelf.Ren := ⟨fun | 220 => 58 | 219 => 70 | 217 => 79 | 225 => 80 | 224 => 81 | 267 => 82 | 266 => 86 | 314 => 87 | n => n, fun | 9 => 9 | 4 => 4 | 3 => 3 | 5 => 5 | 46 => 86 | 146 => 104 | 51 => 100 | n => n, fun | 1 => 1 | n => n⟩
def Tryd.laysM145_ren : Go.Shelf.Ren := ⟨fun | 145 => 46 | 220 => 58 | 219 => 70 | 217 => 79 | 225 => 80 | 224 => 81 | 267 => 82 | 266 => 86 | 314 => 87 | n => n, fun | 9 => 9 | 4 => 4 | 59 => 72 | 3 => 3 | 5 => 5 | 46 => 86 | 146 => 104 | 51 => 100 | n => n, fun | 1 => 1 | n => n⟩
def Tryd.lays206_ren : Go.Shelf.Ren := ⟨fun | 206 => 61 | n => n, fun | 9 => 9 | 4 => 4 | 3 => 3 | n => n, fun | n => n⟩
theorem Tryd.lays206 : Go.Proofs.Lays.n206 Tryd.prog Tryd.lays206_ren := {
 mixed:=by kernel_rfl
 f206:=Tryd.func61.trans (congrArg some (by kernel_rfl))
 t3:=Tryd.underlying3
 a3:=Tryd.isAgg3
 z3:=Tryd.sizeOf3
 v3:=Tryd.zeroValue3
 t4:=Tryd.underlying4
 a4:=Tryd.isAgg4
 z4:=Tryd.sizeOf4
 v4:=Tryd.zeroValue4
 t9:=Tryd.underlying9
 a9:=Tryd.isAgg9
 z9:=Tryd.sizeOf9
 v9:=Tryd.zeroValue9 }
open Go.RowKit Go.Lib in
theorem Tryd.stringslite_HasPrefix (s p : ByteArray) (w : World) :
  Calls Tryd.prog 61 #[.string s,.string p] w fun e w'=>e=.returned (.bool (Lib.hasPrefix s.data.toList p.data.toList))∧w'=w:=Any.stringslite_HasPrefix Tryd.lays206 s p w
def Tryd.lays99_ren : Go.Shelf.Ren := ⟨fun | 99 => 49 | 206 => 61 | n => n, fun | 9 => 9 | 4 => 4 | 3 => 3 | n => n, fun | n => n⟩
theorem Tryd.lays99 : Go.Proofs.Lays.n99 Tryd.prog Tryd.lays99_ren := {
 mixed:=by kernel_rfl
 f99:=Tryd.func49.trans (congrArg some (by kernel_rfl))
 f206:=Tryd.func61.trans (congrArg some (by kernel_rfl))
 t3:=Tryd.underlying3
 a3:=Tryd.isAgg3
 z3:=Tryd.sizeOf3
 v3:=Tryd.zeroValue3
 t4:=Tryd.underlying4
 a4:=Tryd.isAgg4
 z4:=Tryd.sizeOf4
 v4:=Tryd.zeroValue4
 t9:=Tryd.underlying9
 a9:=Tryd.isAgg9
 z9:=Tryd.sizeOf9
 v9:=Tryd.zeroValue9 }
open Go.RowKit Go.Lib in
theorem Tryd.strings_HasPrefix (s p : ByteArray) (w : World) :
  Calls Tryd.prog 49 #[.string s,.string p] w fun e w'=>e=.returned (.bool (Lib.hasPrefix s.data.toList p.data.toList))∧w'=w:=Any.strings_HasPrefix Tryd.lays99 s p w
def Tryd.lays207_ren : Go.Shelf.Ren := ⟨fun | 207 => 62 | n => n, fun | 9 => 9 | 4 => 4 | 3 => 3 | n => n, fun | n => n⟩
theorem Tryd.lays207 : Go.Proofs.Lays.n207 Tryd.prog Tryd.lays207_ren := {
 mixed:=by kernel_rfl
 f207:=Tryd.func62.trans (congrArg some (by kernel_rfl))
 t3:=Tryd.underlying3
 a3:=Tryd.isAgg3
 z3:=Tryd.sizeOf3
 v3:=Tryd.zeroValue3
 t4:=Tryd.underlying4
 a4:=Tryd.isAgg4
 z4:=Tryd.sizeOf4
 v4:=Tryd.zeroValue4
 t9:=Tryd.underlying9
 a9:=Tryd.isAgg9
 z9:=Tryd.sizeOf9
 v9:=Tryd.zeroValue9 }
open Go.RowKit Go.Lib in
theorem Tryd.stringslite_HasSuffix (s p : ByteArray) (w : World) (hs : s.size ≤ 9223372036854775807) :
  Calls Tryd.prog 62 #[.string s,.string p] w fun e w'=>e=.returned (.bool (Lib.hasSuffix s.data.toList p.data.toList))∧w'=w:=Any.stringslite_HasSuffix Tryd.lays207 s p w hs
def Tryd.lays100_ren : Go.Shelf.Ren := ⟨fun | 100 => 53 | 207 => 62 | n => n, fun | 9 => 9 | 4 => 4 | 3 => 3 | n => n, fun | n => n⟩
theorem Tryd.lays100 : Go.Proofs.Lays.n100 Tryd.prog Tryd.lays100_ren := {
 mixed:=by kernel_rfl
 f100:=Tryd.func53.trans (congrArg some (by kernel_rfl))
 f207:=Tryd.func62.trans (congrArg some (by kernel_rfl))
 t3:=Tryd.underlying3
 a3:=Tryd.isAgg3
 z3:=Tryd.sizeOf3
 v3:=Tryd.zeroValue3
 t4:=Tryd.underlying4
 a4:=Tryd.isAgg4
 z4:=Tryd.sizeOf4
 v4:=Tryd.zeroValue4
 t9:=Tryd.underlying9
 a9:=Tryd.isAgg9
 z9:=Tryd.sizeOf9
 v9:=Tryd.zeroValue9 }
open Go.RowKit Go.Lib in
theorem Tryd.strings_HasSuffix (s p : ByteArray) (w : World) (hs : s.size ≤ 9223372036854775807) :
  Calls Tryd.prog 53 #[.string s,.string p] w fun e w'=>e=.returned (.bool (Lib.hasSuffix s.data.toList p.data.toList))∧w'=w:=Any.strings_HasSuffix Tryd.lays100 s p w hs
def Tryd.lays264_ren : Go.Shelf.Ren := ⟨fun | 264 => 77 | n => n, fun | 53 => 88 | 46 => 86 | n => n, fun | n => n⟩
def Tryd.lays212_ren : Go.Shelf.Ren := ⟨fun | 212 => 67 | 263 => 76 | 264 => 77 | n => n, fun | 46 => 86 | 51 => 100 | 146 => 104 | 53 => 88 | 148 => 106 | n => n, fun | n => n⟩
def Tryd.lays105_ren : Go.Shelf.Ren := ⟨fun | 105 => 57 | 212 => 67 | 99 => 49 | 165 => 68 | 166 => 25 | 170 => 69 | 169 => 28 | 263 => 76 | 264 => 77 | 206 => 61 | 240 => 42 | 241 => 78 | 276 => 54 | 277 => 85 | n => n, fun | 9 => 9 | 3 => 3 | 4 => 4 | 20 => 20 | 0 => 0 | 46 => 86 | 109 => 93 | 5 => 5 | 72 => 49 | 76 => 52 | 51 => 100 | 146 => 104 | 53 => 88 | 148 => 106 | 70 => 47 | 37 => 36 | 75 => 51 | 127 => 69 | 164 => 82 | 80 => 55 | n => n, fun | n => n⟩
theorem Tryd.lays105 : Go.Proofs.Lays.n105 Tryd.prog Tryd.lays105_ren := {
 mixed:=by kernel_rfl
 f99:=Tryd.func49.trans (congrArg some (by kernel_rfl))
 f105:=Tryd.func57.trans (congrArg some (by kernel_rfl))
 f165:=Tryd.func68.trans (congrArg some (by kernel_rfl))
 f166:=Tryd.func25.trans (congrArg some (by kernel_rfl))
 f169:=Tryd.func28.trans (congrArg some (by kernel_rfl))
 f170:=Tryd.func69.trans (congrArg some (by kernel_rfl))
 f206:=Tryd.func61.trans (congrArg some (by kernel_rfl))
 f212:=Tryd.func67.trans (congrArg some (by kernel_rfl))
 f240:=Tryd.func42.trans (congrArg some (by kernel_rfl))
 f241:=Tryd.func78.trans (congrArg some (by kernel_rfl))
 f263:=Tryd.func76.trans (congrArg some (by kernel_rfl))
 f264:=Tryd.func77.trans (congrArg some (by kernel_rfl))
 f276:=Tryd.func54.trans (congrArg some (by kernel_rfl))
 f277:=Tryd.func85.trans (congrArg some (by kernel_rfl))
 t0:=Tryd.underlying0
 a0:=Tryd.isAgg0
 z0:=Tryd.sizeOf0
 v0:=Tryd.zeroValue0
 t3:=Tryd.underlying3
 a3:=Tryd.isAgg3
 z3:=Tryd.sizeOf3
 v3:=Tryd.zeroValue3
 t4:=Tryd.underlying4
 a4:=Tryd.isAgg4
 z4:=Tryd.sizeOf4
 v4:=Tryd.zeroValue4
 t5:=Tryd.underlying5
 a5:=Tryd.isAgg5
 z5:=Tryd.sizeOf5
 v5:=Tryd.zeroValue5
 t9:=Tryd.underlying9
 a9:=Tryd.isAgg9
 z9:=Tryd.sizeOf9
 v9:=Tryd.zeroValue9
 t20:=Tryd.underlying20
 a20:=Tryd.isAgg20
 z20:=Tryd.sizeOf20
 v20:=Tryd.zeroValue20
 t37:=Tryd.underlying36
 a37:=Tryd.isAgg36
 z37:=Tryd.sizeOf36
 v37:=Tryd.zeroValue36
 t46:=Tryd.underlying86
 a46:=Tryd.isAgg86
 z46:=Tryd.sizeOf86
 v46:=Tryd.zeroValue86
 t51:=Tryd.underlying100
 a51:=Tryd.isAgg100
 z51:=Tryd.sizeOf100
 v51:=Tryd.zeroValue100
 t53:=Tryd.underlying88
 a53:=Tryd.isAgg88
 z53:=Tryd.sizeOf88
 v53:=Tryd.zeroValue88
 t70:=Tryd.underlying47
 a70:=Tryd.isAgg47
 z70:=Tryd.sizeOf47
 v70:=Tryd.zeroValue47
 t72:=Tryd.underlying49
 a72:=Tryd.isAgg49
 z72:=Tryd.sizeOf49
 v72:=Tryd.zeroValue49
 t75:=Tryd.underlying51
 a75:=Tryd.isAgg51
 z75:=Tryd.sizeOf51
 v75:=Tryd.zeroValue51
 t76:=Tryd.underlying52
 a76:=Tryd.isAgg52
 z76:=Tryd.sizeOf52
 v76:=Tryd.zeroValue52
 t109:=Tryd.underlying93
 a109:=Tryd.isAgg93
 z109:=Tryd.sizeOf93
 v109:=Tryd.zeroValue93
 t127:=Tryd.underlying69
 a127:=Tryd.isAgg69
 z127:=Tryd.sizeOf69
 v127:=Tryd.zeroValue69
 t146:=Tryd.underlying104
 a146:=Tryd.isAgg104
 z146:=Tryd.sizeOf104
 v146:=Tryd.zeroValue104
 t148:=Tryd.underlying106
 a148:=Tryd.isAgg106
 z148:=Tryd.sizeOf106
 v148:=Tryd.zeroValue106
 t164:=Tryd.underlying82
 a164:=Tryd.isAgg82
 z164:=Tryd.sizeOf82
 v164:=Tryd.zeroValue82 }
theorem Tryd.Builder_Extra_105 : Builder.Extra Tryd.prog Tryd.lays105_ren := {
 sizeBuilder:=by kernel_rfl
 liesBuilder:=by kernel_rfl
 t5:=Tryd.underlying5
 a5:=Tryd.isAgg5
 z5:=Tryd.sizeOf5
 v5:=Tryd.zeroValue5
 infoByte:=by kernel_rfl
 cellsByte:=by kernel_rfl
 sizeByte:=by kernel_rfl
 neB5:=by decide }
open Go.RowKit Go.Lib in
theorem Tryd.strings_Repeat (s : ByteArray) (c : Nat) (w : World) (hc : c ≤ 9223372036854775807) (hlen : s.size * c ≤ 140737488355328) :
  Calls Tryd.prog 57 #[.string s,.int .i64 c] w fun e w'=>e=.returned (.string ⟨(Lib.repeatL s.data.toList c).toArray⟩)∧Below w.heap.size w w':=Any.strings_Repeat Tryd.lays105 Tryd.Builder_Extra_105 s c w hc hlen
end Go.Proofs
