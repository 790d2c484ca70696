/-
  DERIVED: THE SHELF's CONTRACTS AT THIS DUMP, IN PLAIN WORDS (tools/lay-plain.mjs out of 'TryShelf.lean', which tools/lay-shelf.mjs wrote): THE SAME DECLARATIONS UNDER THE SAME NAMES: 'import', 'namespace', 'open', 'def', 'theorem' AND NOTHING ELSE: no command of the shelf's: FOR A HAND-IN. Each laying: the table of numbers ('.._ren') and one theorem, a field a fact of the dump's own or the kernel's comparison; each contract: ONE APPLICATION.
-/
import Derived.Shelf.Small.Bits
import Derived.Shelf.Small.Wraps
import Derived.Shelf.Strconv.Itoa0
import Derived.Ground.Names2Prog
import Derived.Shelf.Slices.Clone
import Derived.Shelf.Slices.CompactI
import Derived.Shelf.Slices.SearchI
import Derived.Shelf.Slices.Cells
import Derived.Ground.SlgnProg
import Derived.Shelf.SlicesE.Clone
import Derived.Ground.SlsfProg
import Derived.Shelf.SlSortCmp.Insertion
import Derived.Shelf.SlSortCmp.SiftDown1
import Derived.Shelf.SlSortCmp.HeapSort1
import Derived.Shelf.SlSortCmp.Insertion1
import Derived.Shelf.SlSortCmp.Median1
import Derived.Shelf.SlSortCmp.Pivot1
import Derived.Shelf.SlSortCmp.ReverseRange1
import Derived.Shelf.SlSortCmp.PartialInsertion1
import Derived.Shelf.SlSortCmp.PartitionEqual1
import Derived.Shelf.SlSortCmp.Partition1
import Derived.Shelf.SlSortCmp.Pdq1
import Derived.Shelf.SlSortCmp.Whole1
import Derived.Shelf.SlSortCmp.NoneTotal
import Derived.Shelf.SlIterI.Nil
import Derived.Shelf.SortM.Plain
import Derived.Shelf.SortM.SortNone
import Derived.Ground.GgzProg
import Derived.Ground.SlgmProg
import Derived.Test.YtmlfchjompfmaaaDoorProg
set_option linter.unusedVariables false
namespace Go.Proofs
open Go.Shelf
open Go.RowKit Go.Lib Go.Sort in
open Go.RowKit Go.Lib in
open Go.RowKit Go.Lib in
open Go.RowKit Go.Lib Go.Sort in
open Go.RowKit Go.Lib Go.Sort in
open Go.RowKit Go.Lib Go.Sort in
open Go.RowKit Go.Lib Go.Sort in
open Go.RowKit Go.Lib Go.Sort in
open Go.RowKit Go.Lib Go.Sort in
open Go.RowKit Go.Lib Go.Sort in
open Go.RowKit Go.Lib Go.Sort in
open Go.RowKit Go.Lib Go.Sort in
open Go.RowKit Go.Lib Go.Sort in
open Go.RowKit Go.Lib Go.Sort in
open Go.RowKit Go.Lib Go.Sort in
open Go.RowKit Go.Lib Go.Sort in
open Go.RowKit Go.Lib Go.Sort in
open Go.RowKit Go.Lib Go.Sort in
open Go.RowKit Go.Lib Go.Sort in
open Go.RowKit Go.Lib Go.Sort in
open Go.RowKit Go.Lib Go.Sort in
open Go.RowKit Go.Lib Go.Sort in
def Tryd.keysA_ren : Go.Shelf.Ren := ⟨fun | 7 => 40 | 10 => 69 | n => n, fun | 23 => 89 | 26 => 3 | 3 => 3 | 28 => 93 | 0 => 0 | 27 => 92 | 33 => 122 | 4 => 4 | n => n, fun | n => n⟩
theorem Tryd.keysA : Go.Proofs.SlLaysZI.n7 Tryd.prog Tryd.keysA_ren := {
 mixed := by kernel_rfl
 f7 := ⟨Tryd.f40.name, by decide, Tryd.func40.trans (congrArg some (by kernel_rfl))⟩
 f10 := ⟨Tryd.f69.name, by decide, Tryd.func69.trans (congrArg some (by kernel_rfl))⟩
 t0 := Tryd.underlying0
 a0 := Tryd.isAgg0
 z0 := Tryd.sizeOf0
 v0 := Tryd.zeroValue0
 t4 := Tryd.underlying4
 a4 := Tryd.isAgg4
 z4 := Tryd.sizeOf4
 v4 := Tryd.zeroValue4
 t23 := Tryd.underlying89
 a23 := Tryd.isAgg89
 z23 := Tryd.sizeOf89
 v23 := Tryd.zeroValue89
 t26 := Tryd.underlying3
 a26 := Tryd.isAgg3
 z26 := Tryd.sizeOf3
 v26 := Tryd.zeroValue3
 t27 := Tryd.underlying92
 a27 := Tryd.isAgg92
 z27 := Tryd.sizeOf92
 v27 := Tryd.zeroValue92
 t28 := Tryd.underlying93
 a28 := Tryd.isAgg93
 z28 := Tryd.sizeOf93
 v28 := Tryd.zeroValue93
 t33 := Tryd.underlying122
 a33 := Tryd.isAgg122
 z33 := Tryd.sizeOf122
 v33 := Tryd.zeroValue122 }
def Tryd.sortedA_ren : Go.Shelf.Ren := ⟨fun | 6 => 39 | 8 => 67 | 9 => 68 | 11 => 86 | 13 => 88 | 12 => 87 | 23 => 112 | 24 => 113 | 14 => 103 | 15 => 104 | 16 => 105 | 17 => 106 | 18 => 107 | 19 => 108 | 20 => 109 | 21 => 110 | 22 => 111 | 25 => 124 | 26 => 125 | 27 => 126 | 28 => 127 | 29 => 128 | 30 => 72 | 31 => 137 | n => n, fun | 26 => 3 | 28 => 93 | 24 => 67 | 0 => 0 | 3 => 3 | 37 => 140 | 48 => 162 | 50 => 164 | 4 => 4 | 40 => 154 | 39 => 153 | 45 => 159 | 5 => 5 | 9 => 9 | 51 => 167 | 55 => 171 | 57 => 186 | 58 => 187 | 33 => 122 | n => n, fun | n => n⟩
theorem Tryd.sortedA : Go.Proofs.SlLaysZI.n6 Tryd.prog Tryd.sortedA_ren := {
 mixed := by kernel_rfl
 f6 := ⟨Tryd.f39.name, by decide, Tryd.func39.trans (congrArg some (by kernel_rfl))⟩
 f8 := ⟨Tryd.f67.name, by decide, Tryd.func67.trans (congrArg some (by kernel_rfl))⟩
 f11 := ⟨Tryd.f86.name, by decide, Tryd.func86.trans (congrArg some (by kernel_rfl))⟩
 t0 := Tryd.underlying0
 a0 := Tryd.isAgg0
 z0 := Tryd.sizeOf0
 v0 := Tryd.zeroValue0
 t24 := Tryd.underlying67
 a24 := Tryd.isAgg67
 z24 := Tryd.sizeOf67
 v24 := Tryd.zeroValue67
 t26 := Tryd.underlying3
 a26 := Tryd.isAgg3
 z26 := Tryd.sizeOf3
 v26 := Tryd.zeroValue3
 t28 := Tryd.underlying93
 a28 := Tryd.isAgg93
 z28 := Tryd.sizeOf93
 v28 := Tryd.zeroValue93
 i26 := by kernel_rfl }
def Tryd.sortA_ren : Go.Shelf.Ren := ⟨fun | 5 => 68 | 8 => 88 | 7 => 87 | 19 => 112 | 20 => 113 | 10 => 103 | 11 => 104 | 12 => 105 | 13 => 106 | 14 => 107 | 15 => 108 | 16 => 109 | 17 => 110 | 18 => 111 | 30 => 124 | 31 => 125 | 32 => 126 | 33 => 127 | 34 => 128 | 35 => 72 | 40 => 137 | n => n, fun | 23 => 67 | 25 => 3 | 3 => 3 | 32 => 140 | 22 => 67 | 0 => 0 | 44 => 162 | 46 => 164 | 4 => 4 | 36 => 154 | 35 => 153 | 41 => 159 | 5 => 5 | 9 => 9 | 53 => 167 | 57 => 171 | 63 => 186 | 64 => 187 | n => n, fun | n => n⟩
theorem Tryd.sortA : Go.Proofs.SlLaysM.n5 Tryd.prog Tryd.sortA_ren := {
 mixed := by kernel_rfl
 f5 := ⟨Tryd.f68.name, by decide, Tryd.func68.trans (congrArg some (by kernel_rfl))⟩
 f7 := ⟨Tryd.f87.name, by decide, Tryd.func87.trans (congrArg some (by kernel_rfl))⟩
 f8 := Tryd.func88.trans (congrArg some (by kernel_rfl))
 f10 := ⟨Tryd.f103.name, by decide, Tryd.func103.trans (congrArg some (by kernel_rfl))⟩
 f11 := ⟨Tryd.f104.name, by decide, Tryd.func104.trans (congrArg some (by kernel_rfl))⟩
 f12 := ⟨Tryd.f105.name, by decide, Tryd.func105.trans (congrArg some (by kernel_rfl))⟩
 f13 := ⟨Tryd.f106.name, by decide, Tryd.func106.trans (congrArg some (by kernel_rfl))⟩
 f14 := ⟨Tryd.f107.name, by decide, Tryd.func107.trans (congrArg some (by kernel_rfl))⟩
 f15 := ⟨Tryd.f108.name, by decide, Tryd.func108.trans (congrArg some (by kernel_rfl))⟩
 f16 := ⟨Tryd.f109.name, by decide, Tryd.func109.trans (congrArg some (by kernel_rfl))⟩
 f17 := ⟨Tryd.f110.name, by decide, Tryd.func110.trans (congrArg some (by kernel_rfl))⟩
 f18 := ⟨Tryd.f111.name, by decide, Tryd.func111.trans (congrArg some (by kernel_rfl))⟩
 f19 := Tryd.func112.trans (congrArg some (by kernel_rfl))
 f20 := Tryd.func113.trans (congrArg some (by kernel_rfl))
 f30 := ⟨Tryd.f124.name, by decide, Tryd.func124.trans (congrArg some (by kernel_rfl))⟩
 f31 := Tryd.func125.trans (congrArg some (by kernel_rfl))
 f32 := Tryd.func126.trans (congrArg some (by kernel_rfl))
 f33 := ⟨Tryd.f127.name, by decide, Tryd.func127.trans (congrArg some (by kernel_rfl))⟩
 f34 := ⟨Tryd.f128.name, by decide, Tryd.func128.trans (congrArg some (by kernel_rfl))⟩
 f35 := ⟨Tryd.f72.name, by decide, Tryd.func72.trans (congrArg some (by kernel_rfl))⟩
 f40 := ⟨Tryd.f137.name, by decide, Tryd.func137.trans (congrArg some (by kernel_rfl))⟩
 t0 := Tryd.underlying0
 a0 := Tryd.isAgg0
 z0 := Tryd.sizeOf0
 v0 := Tryd.zeroValue0
 t3 := Tryd.underlying3
 a3 := Tryd.isAgg3
 z3 := Tryd.sizeOf3
 v3 := Tryd.zeroValue3
 t4 := Tryd.underlying4
 a4 := Tryd.isAgg4
 z4 := Tryd.sizeOf4
 v4 := Tryd.zeroValue4
 t5 := Tryd.underlying5
 a5 := Tryd.isAgg5
 z5 := Tryd.sizeOf5
 v5 := Tryd.zeroValue5
 t9 := Tryd.underlying9
 a9 := Tryd.isAgg9
 z9 := Tryd.sizeOf9
 v9 := Tryd.zeroValue9
 t22 := Tryd.underlying67
 a22 := Tryd.isAgg67
 z22 := Tryd.sizeOf67
 v22 := Tryd.zeroValue67
 t23 := Tryd.underlying67
 a23 := Tryd.isAgg67
 z23 := Tryd.sizeOf67
 v23 := Tryd.zeroValue67
 t25 := Tryd.underlying3
 a25 := Tryd.isAgg3
 z25 := Tryd.sizeOf3
 v25 := Tryd.zeroValue3
 t32 := Tryd.underlying140
 a32 := Tryd.isAgg140
 z32 := Tryd.sizeOf140
 v32 := Tryd.zeroValue140
 t35 := Tryd.underlying153
 a35 := Tryd.isAgg153
 z35 := Tryd.sizeOf153
 v35 := Tryd.zeroValue153
 t36 := Tryd.underlying154
 a36 := Tryd.isAgg154
 z36 := Tryd.sizeOf154
 v36 := Tryd.zeroValue154
 t41 := Tryd.underlying159
 a41 := Tryd.isAgg159
 z41 := Tryd.sizeOf159
 v41 := Tryd.zeroValue159
 t44 := Tryd.underlying162
 a44 := Tryd.isAgg162
 z44 := Tryd.sizeOf162
 v44 := Tryd.zeroValue162
 t46 := Tryd.underlying164
 a46 := Tryd.isAgg164
 z46 := Tryd.sizeOf164
 v46 := Tryd.zeroValue164
 t53 := Tryd.underlying167
 a53 := Tryd.isAgg167
 z53 := Tryd.sizeOf167
 v53 := Tryd.zeroValue167
 t57 := Tryd.underlying171
 a57 := Tryd.isAgg171
 z57 := Tryd.sizeOf171
 v57 := Tryd.zeroValue171
 t63 := Tryd.underlying186
 a63 := Tryd.isAgg186
 z63 := Tryd.sizeOf186
 v63 := Tryd.zeroValue186
 t64 := Tryd.underlying187
 a64 := Tryd.isAgg187
 z64 := Tryd.sizeOf187
 v64 := Tryd.zeroValue187 }
end Go.Proofs
