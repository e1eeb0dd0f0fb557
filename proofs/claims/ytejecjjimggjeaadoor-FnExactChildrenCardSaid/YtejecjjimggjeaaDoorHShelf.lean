/-
 DERIVED: THE SHELF's CONTRACTS AT THIS DUMP, IN PLAIN WORDS (tools/lay-plain.mjs out of 'TrydShelf.lean', which tools/lay-shelf.mjs wrote): THE SAME DECLARATIONS UNDER THE SAME NAMES: 'import', 'namespace', 'open', 'def', 'theorem' AND NOTHING ELSE: no command of the shelf's: FOR A HAND-IN. Each laying: the table of numbers ('.._ren') and one theorem, a field a fact of the dump's own or the kernel's comparison; each contract: ONE APPLICATION.
-/
import Derived.Shelf.Small.Bits
import Derived.Shelf.Small.Wraps
import Derived.Shelf.Utf8.RuneCount
import Derived.Shelf.Strconv.Itoa0
import Derived.Shelf.Strings.Search1
import Derived.Shelf.Strings.Search2
import Derived.Shelf.Strings.Search3
import Derived.Shelf.Strings.Count
import Derived.Shelf.LaysM
import Derived.Shelf.Strings.Shaped
import Derived.Shelf.Sort.Plain
import Derived.Shelf.Strings.LastIndex
import Derived.Shelf.Strings.Prefix
import Derived.Shelf.Strings.Split
import Derived.Shelf.Strings.SplitShaped
import Derived.Shelf.Unicode.Decode
import Derived.Shelf.Strings.RuneCount
import Derived.Shelf.Strings.Explode
import Derived.Shelf.Unicode.DecodeSlow
import Derived.Shelf.Unicode.DecodeAny
import Derived.Shelf.Slices.In.SortNone
import Derived.Ground.PaProg
import Derived.Shelf.Path.Small
import Derived.Test.YtejecjjimggjeaaDoorProg
namespace Go.Proofs
open Go.Shelf
def Tryd.lays190_ren : Go.Shelf.Ren := ⟨fun | 190 => 47 | 125 => 73 | 258 => 72 | 128 => 89 | 129 => 90 | 302 => 80 | 303 => 81 | 304 => 82 | 305 => 83 | 306 => 84 | 307 => 85 | 308 => 86 | 309 => 87 | 310 => 88 | 333 => 95 | 329 => 96 | 330 => 97 | 334 => 98 | 335 => 99 | 336 => 100 | 344 => 105 | n => n, fun | 31 => 41 | 9 => 9 | 3 => 3 | 46 => 73 | 0 => 0 | 51 => 71 | 53 => 92 | 4 => 4 | 183 => 122 | 182 => 121 | 131 => 127 | 5 => 5 | 218 => 133 | 222 => 137 | 228 => 142 | 229 => 143 | n => n, fun | n => n⟩
theorem Tryd.lays190 : Go.Proofs.Lays.n190 Tryd.prog Tryd.lays190_ren := {
 mixed := by kernel_rfl
 f125 := Tryd.func73.trans (congrArg some (by kernel_rfl))
 f128 := Tryd.func89.trans (congrArg some (by kernel_rfl))
 f129 := Tryd.func90.trans (congrArg some (by kernel_rfl))
 f190 := Tryd.func47.trans (congrArg some (by kernel_rfl))
 f258 := Tryd.func72.trans (congrArg some (by kernel_rfl))
 f302 := Tryd.func80.trans (congrArg some (by kernel_rfl))
 f303 := Tryd.func81.trans (congrArg some (by kernel_rfl))
 f304 := Tryd.func82.trans (congrArg some (by kernel_rfl))
 f305 := Tryd.func83.trans (congrArg some (by kernel_rfl))
 f306 := Tryd.func84.trans (congrArg some (by kernel_rfl))
 f307 := Tryd.func85.trans (congrArg some (by kernel_rfl))
 f308 := Tryd.func86.trans (congrArg some (by kernel_rfl))
 f309 := Tryd.func87.trans (congrArg some (by kernel_rfl))
 f310 := Tryd.func88.trans (congrArg some (by kernel_rfl))
 f329 := Tryd.func96.trans (congrArg some (by kernel_rfl))
 f330 := Tryd.func97.trans (congrArg some (by kernel_rfl))
 f333 := Tryd.func95.trans (congrArg some (by kernel_rfl))
 f334 := Tryd.func98.trans (congrArg some (by kernel_rfl))
 f335 := Tryd.func99.trans (congrArg some (by kernel_rfl))
 f336 := Tryd.func100.trans (congrArg some (by kernel_rfl))
 f344 := Tryd.func105.trans (congrArg some (by kernel_rfl))
 t0 := Tryd.underlying0
 a0 := Tryd.isAgg0
 z0 := Tryd.sizeOf0
 v0 := Tryd.zeroValue0
 t3 := Tryd.underlying3
 a3 := Tryd.isAgg3
 z3 := Tryd.sizeOf3
 v3 := Tryd.zeroValue3
 t4 := Tryd.underlying4
 a4 := Tryd.isAgg4
 z4 := Tryd.sizeOf4
 v4 := Tryd.zeroValue4
 t5 := Tryd.underlying5
 a5 := Tryd.isAgg5
 z5 := Tryd.sizeOf5
 v5 := Tryd.zeroValue5
 t9 := Tryd.underlying9
 a9 := Tryd.isAgg9
 z9 := Tryd.sizeOf9
 v9 := Tryd.zeroValue9
 t31 := Tryd.underlying41
 a31 := Tryd.isAgg41
 z31 := Tryd.sizeOf41
 v31 := Tryd.zeroValue41
 t46 := Tryd.underlying73
 a46 := Tryd.isAgg73
 z46 := Tryd.sizeOf73
 v46 := Tryd.zeroValue73
 t51 := Tryd.underlying71
 a51 := Tryd.isAgg71
 z51 := Tryd.sizeOf71
 v51 := Tryd.zeroValue71
 t53 := Tryd.underlying92
 a53 := Tryd.isAgg92
 z53 := Tryd.sizeOf92
 v53 := Tryd.zeroValue92
 t131 := Tryd.underlying127
 a131 := Tryd.isAgg127
 z131 := Tryd.sizeOf127
 v131 := Tryd.zeroValue127
 t182 := Tryd.underlying121
 a182 := Tryd.isAgg121
 z182 := Tryd.sizeOf121
 v182 := Tryd.zeroValue121
 t183 := Tryd.underlying122
 a183 := Tryd.isAgg122
 z183 := Tryd.sizeOf122
 v183 := Tryd.zeroValue122
 t218 := Tryd.underlying133
 a218 := Tryd.isAgg133
 z218 := Tryd.sizeOf133
 v218 := Tryd.zeroValue133
 t222 := Tryd.underlying137
 a222 := Tryd.isAgg137
 z222 := Tryd.sizeOf137
 v222 := Tryd.zeroValue137
 t228 := Tryd.underlying142
 a228 := Tryd.isAgg142
 z228 := Tryd.sizeOf142
 v228 := Tryd.zeroValue142
 t229 := Tryd.underlying143
 a229 := Tryd.isAgg143
 z229 := Tryd.sizeOf143
 v229 := Tryd.zeroValue143 }
open Go.Sort Go.RowKit in
theorem Tryd.slices_Sort_string (blk off cap : Nat) (ss : List (List UInt8)) (w : World) (hH : Holds encStr w blk off ss.toArray) (hblk : blk < w.heap.size) (hsz : ss.length < 4611686018427387904) :
  Calls Tryd.prog 47 #[.slice (some ⟨blk, off, none⟩) ss.length cap] w fun e w' =>
   e = .returned (.tuple #[]) ∧ ∃ n os, w' = grow (putRow encStr (Sort.ahead w n) blk off (ss.mergeSort fun x y => decide (x ≤ y)).toArray) os := Any.slices_Sort_string Tryd.lays190 blk off cap ss w hH hblk hsz
def Tryd.lays146_ren : Go.Shelf.Ren := ⟨fun | 146 => 68 | 221 => 78 | 268 => 92 | 138 => 93 | 143 => 94 | 195 => 101 | 197 => 102 | 218 => 103 | 219 => 104 | 260 => 106 | 217 => 107 | 225 => 108 | 224 => 109 | 267 => 110 | 266 => 111 | 314 => 112 | n => n, fun | 9 => 9 | 31 => 41 | 3 => 3 | 4 => 4 | 0 => 0 | 105 => 140 | 21 => 21 | 5 => 5 | 46 => 73 | 119 => 146 | 139 => 149 | 138 => 148 | 146 => 150 | 51 => 71 | n => n, fun | 1 => 1 | 3 => 2 | 4 => 3 | n => n⟩
theorem Tryd.lays146 : Go.Proofs.Lays.n146 Tryd.prog Tryd.lays146_ren := {
 mixed := by kernel_rfl
 f138 := Tryd.func93.trans (congrArg some (by kernel_rfl))
 f143 := Tryd.func94.trans (congrArg some (by kernel_rfl))
 f146 := Tryd.func68.trans (congrArg some (by kernel_rfl))
 f195 := Tryd.func101.trans (congrArg some (by kernel_rfl))
 f197 := Tryd.func102.trans (congrArg some (by kernel_rfl))
 f217 := Tryd.func107.trans (congrArg some (by kernel_rfl))
 f218 := Tryd.func103.trans (congrArg some (by kernel_rfl))
 f219 := Tryd.func104.trans (congrArg some (by kernel_rfl))
 f221 := Tryd.func78.trans (congrArg some (by kernel_rfl))
 f224 := Tryd.func109.trans (congrArg some (by kernel_rfl))
 f225 := Tryd.func108.trans (congrArg some (by kernel_rfl))
 f260 := Tryd.func106.trans (congrArg some (by kernel_rfl))
 f266 := Tryd.func111.trans (congrArg some (by kernel_rfl))
 f267 := Tryd.func110.trans (congrArg some (by kernel_rfl))
 f268 := Tryd.func92.trans (congrArg some (by kernel_rfl))
 f314 := Tryd.func112.trans (congrArg some (by kernel_rfl))
 t0 := Tryd.underlying0
 a0 := Tryd.isAgg0
 z0 := Tryd.sizeOf0
 v0 := Tryd.zeroValue0
 t3 := Tryd.underlying3
 a3 := Tryd.isAgg3
 z3 := Tryd.sizeOf3
 v3 := Tryd.zeroValue3
 t4 := Tryd.underlying4
 a4 := Tryd.isAgg4
 z4 := Tryd.sizeOf4
 v4 := Tryd.zeroValue4
 t5 := Tryd.underlying5
 a5 := Tryd.isAgg5
 z5 := Tryd.sizeOf5
 v5 := Tryd.zeroValue5
 t9 := Tryd.underlying9
 a9 := Tryd.isAgg9
 z9 := Tryd.sizeOf9
 v9 := Tryd.zeroValue9
 t21 := Tryd.underlying21
 a21 := Tryd.isAgg21
 z21 := Tryd.sizeOf21
 v21 := Tryd.zeroValue21
 t31 := Tryd.underlying41
 a31 := Tryd.isAgg41
 z31 := Tryd.sizeOf41
 v31 := Tryd.zeroValue41
 t46 := Tryd.underlying73
 a46 := Tryd.isAgg73
 z46 := Tryd.sizeOf73
 v46 := Tryd.zeroValue73
 t51 := Tryd.underlying71
 a51 := Tryd.isAgg71
 z51 := Tryd.sizeOf71
 v51 := Tryd.zeroValue71
 t105 := Tryd.underlying140
 a105 := Tryd.isAgg140
 z105 := Tryd.sizeOf140
 v105 := Tryd.zeroValue140
 t119 := Tryd.underlying146
 a119 := Tryd.isAgg146
 z119 := Tryd.sizeOf146
 t138 := Tryd.underlying148
 a138 := Tryd.isAgg148
 z138 := Tryd.sizeOf148
 v138 := Tryd.zeroValue148
 t139 := Tryd.underlying149
 a139 := Tryd.isAgg149
 z139 := Tryd.sizeOf149
 v139 := Tryd.zeroValue149
 t146 := Tryd.underlying150
 a146 := Tryd.isAgg150
 z146 := Tryd.sizeOf150
 v146 := Tryd.zeroValue150
 g1 := by kernel_rfl
 g3 := by kernel_rfl
 g4 := by kernel_rfl }
open Go.RowKit Go.Lib in
/-- strings.Split. (LAID: no walk: one application.) -/
theorem Tryd.strings_Split (s sep : ByteArray) (m : Int) (w : World) (hs : s.size < 4294967281) (hm : w.cell? ⟨1, 0, none⟩ = some (.int .i64 m)) (h1 : 1 ≤ sep.size) :
  Calls Tryd.prog 68 #[.string s, .string sep] w fun e w' =>
   e = .returned (.slice (some ⟨w.heap.size, 0, none⟩) (Lib.countB s sep + 1) (Lib.countB s sep + 1)) ∧ w' = w.alloc (.cells ((Lib.splitB sep 0 (Lib.countB s sep) s).map Value.string).toArray 9) := Any.strings_Split Tryd.lays146 (by kernel_rfl) s sep m w hs hm h1
open Go.RowKit Go.Sort in
/-- .. and plain. (LAID: no walk: one application.) -/
theorem Tryd.slices_Sort_string_none (p : Option Addr) (cap : Nat) (w : World) :
  Calls Tryd.prog 47 #[.slice p 0 cap] w fun e w' => e = .returned (.tuple #[]) ∧ w' = w := Any.slices_Sort_string_none Tryd.lays190 p cap w
end Go.Proofs
