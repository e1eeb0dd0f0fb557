/-
 DERIVED: THE SHELF's CONTRACTS AT THIS DUMP, IN PLAIN WORDS (tools/lay-plain.mjs out of 'TrydShelf.lean', which tools/lay-shelf.mjs wrote): THE SAME DECLARATIONS UNDER THE SAME NAMES: 'import', 'namespace', 'open', 'def', 'theorem' AND NOTHING ELSE: no command of the shelf's: FOR A HAND-IN. Each laying: the table of numbers ('.._ren') and one theorem, a field a fact of the dump's own or the kernel's comparison; each contract: ONE APPLICATION.
-/
import Derived.Shelf.Small.Bits
import Derived.Shelf.Utf8.RuneCount
import Derived.Shelf.Strconv.Itoa0
import Derived.Shelf.Strconv.Itoa1
import Derived.Shelf.LaysM
import Derived.Shelf.Strconv.Itoa2
import Derived.Shelf.Strconv.Itoa3
import Derived.Shelf.Strings.Search1
import Derived.Shelf.Strings.Search2
import Derived.Shelf.Strings.Search3
import Derived.Shelf.Strings.Count
import Derived.Shelf.Strings.Shaped
import Derived.Shelf.Sort.Plain
import Derived.Shelf.Strings.Split
import Derived.Shelf.Strings.SplitShaped
import Derived.Shelf.Unicode.Decode
import Derived.Shelf.Strings.RuneCount
import Derived.Shelf.Strings.Explode
import Derived.Shelf.Unicode.DecodeSlow
import Derived.Shelf.Unicode.DecodeAny
import Derived.Shelf.Slices.In.SortNone
import Derived.Test.YtjoafknckmoojaaDoorProg
namespace Go.Proofs
open Go.Shelf
def Tryd.lays146_ren : Go.Shelf.Ren := ⟨fun | 146 => 125 | 221 => 176 | 268 => 207 | 138 => 208 | 143 => 209 | 195 => 229 | 197 => 230 | 218 => 231 | 219 => 232 | 260 => 241 | 217 => 242 | 225 => 243 | 224 => 244 | 267 => 245 | 266 => 249 | 314 => 250 | n => n, fun | 9 => 9 | 31 => 58 | 3 => 3 | 4 => 4 | 0 => 0 | 105 => 283 | 21 => 21 | 5 => 5 | 46 => 175 | 119 => 300 | 139 => 303 | 138 => 302 | 146 => 304 | 51 => 173 | n => n, fun | 1 => 1 | 3 => 2 | 4 => 3 | n => n⟩
theorem Tryd.lays146 : Go.Proofs.Lays.n146 Tryd.prog Tryd.lays146_ren := {
 mixed := by kernel_rfl
 f138 := Tryd.func208.trans (congrArg some (by kernel_rfl))
 f143 := Tryd.func209.trans (congrArg some (by kernel_rfl))
 f146 := Tryd.func125.trans (congrArg some (by kernel_rfl))
 f195 := Tryd.func229.trans (congrArg some (by kernel_rfl))
 f197 := Tryd.func230.trans (congrArg some (by kernel_rfl))
 f217 := Tryd.func242.trans (congrArg some (by kernel_rfl))
 f218 := Tryd.func231.trans (congrArg some (by kernel_rfl))
 f219 := Tryd.func232.trans (congrArg some (by kernel_rfl))
 f221 := Tryd.func176.trans (congrArg some (by kernel_rfl))
 f224 := Tryd.func244.trans (congrArg some (by kernel_rfl))
 f225 := Tryd.func243.trans (congrArg some (by kernel_rfl))
 f260 := Tryd.func241.trans (congrArg some (by kernel_rfl))
 f266 := Tryd.func249.trans (congrArg some (by kernel_rfl))
 f267 := Tryd.func245.trans (congrArg some (by kernel_rfl))
 f268 := Tryd.func207.trans (congrArg some (by kernel_rfl))
 f314 := Tryd.func250.trans (congrArg some (by kernel_rfl))
 t0 := Tryd.underlying0
 a0 := Tryd.isAgg0
 z0 := Tryd.sizeOf0
 v0 := Tryd.zeroValue0
 t3 := Tryd.underlying3
 a3 := Tryd.isAgg3
 z3 := Tryd.sizeOf3
 v3 := Tryd.zeroValue3
 t4 := Tryd.underlying4
 a4 := Tryd.isAgg4
 z4 := Tryd.sizeOf4
 v4 := Tryd.zeroValue4
 t5 := Tryd.underlying5
 a5 := Tryd.isAgg5
 z5 := Tryd.sizeOf5
 v5 := Tryd.zeroValue5
 t9 := Tryd.underlying9
 a9 := Tryd.isAgg9
 z9 := Tryd.sizeOf9
 v9 := Tryd.zeroValue9
 t21 := Tryd.underlying21
 a21 := Tryd.isAgg21
 z21 := Tryd.sizeOf21
 v21 := Tryd.zeroValue21
 t31 := Tryd.underlying58
 a31 := Tryd.isAgg58
 z31 := Tryd.sizeOf58
 v31 := Tryd.zeroValue58
 t46 := Tryd.underlying175
 a46 := Tryd.isAgg175
 z46 := Tryd.sizeOf175
 v46 := Tryd.zeroValue175
 t51 := Tryd.underlying173
 a51 := Tryd.isAgg173
 z51 := Tryd.sizeOf173
 v51 := Tryd.zeroValue173
 t105 := Tryd.underlying283
 a105 := Tryd.isAgg283
 z105 := Tryd.sizeOf283
 v105 := Tryd.zeroValue283
 t119 := Tryd.underlying300
 a119 := Tryd.isAgg300
 z119 := Tryd.sizeOf300
 t138 := Tryd.underlying302
 a138 := Tryd.isAgg302
 z138 := Tryd.sizeOf302
 v138 := Tryd.zeroValue302
 t139 := Tryd.underlying303
 a139 := Tryd.isAgg303
 z139 := Tryd.sizeOf303
 v139 := Tryd.zeroValue303
 t146 := Tryd.underlying304
 a146 := Tryd.isAgg304
 z146 := Tryd.sizeOf304
 v146 := Tryd.zeroValue304
 g1 := by kernel_rfl
 g3 := by kernel_rfl
 g4 := by kernel_rfl }
open Go.RowKit Go.Lib in
/-- strings.Split. (LAID: no walk: one application.) -/
theorem Tryd.strings_Split (s sep : ByteArray) (m : Int) (w : World) (hs : s.size < 4294967281) (hm : w.cell? ⟨1, 0, none⟩ = some (.int .i64 m)) (h1 : 1 ≤ sep.size) :
  Calls Tryd.prog 125 #[.string s, .string sep] w fun e w' =>
   e = .returned (.slice (some ⟨w.heap.size, 0, none⟩) (Lib.countB s sep + 1) (Lib.countB s sep + 1)) ∧ w' = w.alloc (.cells ((Lib.splitB sep 0 (Lib.countB s sep) s).map Value.string).toArray 9) := Any.strings_Split Tryd.lays146 (by kernel_rfl) s sep m w hs hm h1
end Go.Proofs
