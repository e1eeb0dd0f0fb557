/-
 DERIVED: THE SHELF's CONTRACTS AT THIS DUMP, IN PLAIN WORDS (tools/lay-plain.mjs out of 'TrydShelf.lean', which tools/lay-shelf.mjs wrote): THE SAME DECLARATIONS UNDER THE SAME NAMES: 'import', 'namespace', 'open', 'def', 'theorem' AND NOTHING ELSE: no command of the shelf's: FOR A HAND-IN. Each laying: the table of numbers ('.._ren') and one theorem, a field a fact of the dump's own or the kernel's comparison; each contract: ONE APPLICATION.
-/
import Derived.Shelf.Strings.Search1
import Derived.Shelf.Strings.Search2
import Derived.Shelf.Strings.Search3
import Derived.Shelf.Strings.Count
import Derived.Shelf.LaysM
import Derived.Shelf.Strings.Shaped
import Derived.Shelf.Strings.Split
import Derived.Shelf.Unicode.DecodeSlow
import Derived.Ground.SlgmProg
import Derived.Shelf.SortM.Plain
import Derived.Shelf.SortM.SortNone
import Derived.Test.YtfiojiokmkiflaaDoorProg
namespace Go.Proofs
open Go.Shelf
def Tryd.lays146_ren : Go.Shelf.Ren := ⟨fun | 146 => 77 | 221 => 114 | 268 => 136 | 138 => 137 | 143 => 138 | 195 => 156 | 197 => 157 | 218 => 158 | 219 => 159 | 260 => 181 | 217 => 182 | 225 => 183 | 224 => 184 | 267 => 185 | 266 => 196 | 314 => 197 | n => n, fun | 9 => 9 | 31 => 119 | 3 => 3 | 4 => 4 | 0 => 0 | 105 => 229 | 21 => 21 | 5 => 5 | 46 => 167 | 119 => 261 | 139 => 264 | 138 => 263 | 146 => 265 | 51 => 165 | n => n, fun | 1 => 1 | 3 => 2 | 4 => 3 | n => n⟩
theorem Tryd.lays146 : Go.Proofs.Lays.n146 Tryd.prog Tryd.lays146_ren := {
 mixed := by kernel_rfl
 f138 := Tryd.func137.trans (congrArg some (by kernel_rfl))
 f143 := Tryd.func138.trans (congrArg some (by kernel_rfl))
 f146 := Tryd.func77.trans (congrArg some (by kernel_rfl))
 f195 := Tryd.func156.trans (congrArg some (by kernel_rfl))
 f197 := Tryd.func157.trans (congrArg some (by kernel_rfl))
 f217 := Tryd.func182.trans (congrArg some (by kernel_rfl))
 f218 := Tryd.func158.trans (congrArg some (by kernel_rfl))
 f219 := Tryd.func159.trans (congrArg some (by kernel_rfl))
 f221 := Tryd.func114.trans (congrArg some (by kernel_rfl))
 f224 := Tryd.func184.trans (congrArg some (by kernel_rfl))
 f225 := Tryd.func183.trans (congrArg some (by kernel_rfl))
 f260 := Tryd.func181.trans (congrArg some (by kernel_rfl))
 f266 := Tryd.func196.trans (congrArg some (by kernel_rfl))
 f267 := Tryd.func185.trans (congrArg some (by kernel_rfl))
 f268 := Tryd.func136.trans (congrArg some (by kernel_rfl))
 f314 := Tryd.func197.trans (congrArg some (by kernel_rfl))
 t0 := Tryd.underlying0
 a0 := Tryd.isAgg0
 z0 := Tryd.sizeOf0
 v0 := Tryd.zeroValue0
 t3 := Tryd.underlying3
 a3 := Tryd.isAgg3
 z3 := Tryd.sizeOf3
 v3 := Tryd.zeroValue3
 t4 := Tryd.underlying4
 a4 := Tryd.isAgg4
 z4 := Tryd.sizeOf4
 v4 := Tryd.zeroValue4
 t5 := Tryd.underlying5
 a5 := Tryd.isAgg5
 z5 := Tryd.sizeOf5
 v5 := Tryd.zeroValue5
 t9 := Tryd.underlying9
 a9 := Tryd.isAgg9
 z9 := Tryd.sizeOf9
 v9 := Tryd.zeroValue9
 t21 := Tryd.underlying21
 a21 := Tryd.isAgg21
 z21 := Tryd.sizeOf21
 v21 := Tryd.zeroValue21
 t31 := Tryd.underlying119
 a31 := Tryd.isAgg119
 z31 := Tryd.sizeOf119
 v31 := Tryd.zeroValue119
 t46 := Tryd.underlying167
 a46 := Tryd.isAgg167
 z46 := Tryd.sizeOf167
 v46 := Tryd.zeroValue167
 t51 := Tryd.underlying165
 a51 := Tryd.isAgg165
 z51 := Tryd.sizeOf165
 v51 := Tryd.zeroValue165
 t105 := Tryd.underlying229
 a105 := Tryd.isAgg229
 z105 := Tryd.sizeOf229
 v105 := Tryd.zeroValue229
 t119 := Tryd.underlying261
 a119 := Tryd.isAgg261
 z119 := Tryd.sizeOf261
 t138 := Tryd.underlying263
 a138 := Tryd.isAgg263
 z138 := Tryd.sizeOf263
 v138 := Tryd.zeroValue263
 t139 := Tryd.underlying264
 a139 := Tryd.isAgg264
 z139 := Tryd.sizeOf264
 v139 := Tryd.zeroValue264
 t146 := Tryd.underlying265
 a146 := Tryd.isAgg265
 z146 := Tryd.sizeOf265
 v146 := Tryd.zeroValue265
 g1 := by kernel_rfl
 g3 := by kernel_rfl
 g4 := by kernel_rfl }
open Go.RowKit Go.Lib in
/-- strings.Split. (LAID: no walk: one application.) -/
theorem Tryd.strings_Split (s sep : ByteArray) (m : Int) (w : World) (hs : s.size < 4294967281) (hm : w.cell? ⟨1, 0, none⟩ = some (.int .i64 m)) (h1 : 1 ≤ sep.size) :
  Calls Tryd.prog 77 #[.string s, .string sep] w fun e w' =>
   e = .returned (.slice (some ⟨w.heap.size, 0, none⟩) (Lib.countB s sep + 1) (Lib.countB s sep + 1)) ∧ w' = w.alloc (.cells ((Lib.splitB sep 0 (Lib.countB s sep) s).map Value.string).toArray 9) := Any.strings_Split Tryd.lays146 (by kernel_rfl) s sep m w hs hm h1
end Go.Proofs
