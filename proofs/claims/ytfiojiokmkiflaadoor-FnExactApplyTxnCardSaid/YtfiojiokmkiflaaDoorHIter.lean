/-
  DERIVED: THE SHELF's CONTRACTS AT THIS DUMP, IN PLAIN WORDS (tools/lay-plain.mjs out of 'TrydIterLay.lean', which tools/lay-shelf.mjs wrote): THE SAME DECLARATIONS UNDER THE SAME NAMES: 'import', 'namespace', 'open', 'def', 'theorem' AND NOTHING ELSE: no command of the shelf's: FOR A HAND-IN. Each laying: the table of numbers ('.._ren') and one theorem, a field a fact of the dump's own or the kernel's comparison; each contract: ONE APPLICATION.
-/
import Derived.Shelf.SlIter.Nil
import Derived.Shelf.SortM.Plain
import Derived.Shelf.SortM.SortNone
import Derived.Ground.GgzProg
import Derived.Ground.SlgmProg
import Derived.Test.YtfiojiokmkiflaaDoorProg
namespace Go.Proofs
open Go.RowKit Go.Maps Go.Sort Go.Shelf
def Tryd.keys107_ren : Go.Shelf.Ren := ⟨fun | 7 => 107 | 10 => 135 | n => n, fun | 23 => 177 | 26 => 9 | 3 => 77 | 28 => 182 | 0 => 0 | 27 => 181 | 33 => 204 | 4 => 4 | n => n, fun | n => n⟩
theorem Tryd.keys107 : Go.Proofs.SlLaysZ.n7 Tryd.prog Tryd.keys107_ren := {
  mixed := by kernel_rfl
  f7 := ⟨Tryd.f107.name, by decide, Tryd.func107.trans (congrArg some (by kernel_rfl))⟩
  f10 := ⟨Tryd.f135.name, by decide, Tryd.func135.trans (congrArg some (by kernel_rfl))⟩
  t0 := Tryd.underlying0
  a0 := Tryd.isAgg0
  z0 := Tryd.sizeOf0
  v0 := Tryd.zeroValue0
  t4 := Tryd.underlying4
  a4 := Tryd.isAgg4
  z4 := Tryd.sizeOf4
  v4 := Tryd.zeroValue4
  t23 := Tryd.underlying177
  a23 := Tryd.isAgg177
  z23 := Tryd.sizeOf177
  v23 := Tryd.zeroValue177
  t26 := Tryd.underlying9
  a26 := Tryd.isAgg9
  z26 := Tryd.sizeOf9
  v26 := Tryd.zeroValue9
  t27 := Tryd.underlying181
  a27 := Tryd.isAgg181
  z27 := Tryd.sizeOf181
  v27 := Tryd.zeroValue181
  t28 := Tryd.underlying182
  a28 := Tryd.isAgg182
  z28 := Tryd.sizeOf182
  v28 := Tryd.zeroValue182
  t33 := Tryd.underlying204
  a33 := Tryd.isAgg204
  z33 := Tryd.sizeOf204
  v33 := Tryd.zeroValue204 }
def Tryd.sorted106_ren : Go.Shelf.Ren := ⟨fun | 6 => 106 | 8 => 133 | 9 => 134 | 11 => 153 | 13 => 155 | 12 => 154 | 23 => 179 | 24 => 180 | 14 => 170 | 15 => 171 | 16 => 172 | 17 => 173 | 18 => 174 | 19 => 175 | 20 => 176 | 21 => 177 | 22 => 178 | 25 => 190 | 26 => 191 | 27 => 192 | 28 => 193 | 29 => 194 | 30 => 195 | 31 => 201 | n => n, fun | 26 => 9 | 28 => 182 | 24 => 119 | 0 => 0 | 3 => 3 | 37 => 167 | 48 => 165 | 50 => 203 | 4 => 4 | 40 => 239 | 39 => 238 | 45 => 244 | 5 => 5 | 9 => 9 | 51 => 255 | 55 => 259 | 57 => 268 | 58 => 269 | 33 => 204 | n => n, fun | n => n⟩
theorem Tryd.sorted106 : Go.Proofs.SlLaysZ.n6 Tryd.prog Tryd.sorted106_ren := {
  mixed := by kernel_rfl
  f6 := ⟨Tryd.f106.name, by decide, Tryd.func106.trans (congrArg some (by kernel_rfl))⟩
  f8 := ⟨Tryd.f133.name, by decide, Tryd.func133.trans (congrArg some (by kernel_rfl))⟩
  f11 := ⟨Tryd.f153.name, by decide, Tryd.func153.trans (congrArg some (by kernel_rfl))⟩
  t0 := Tryd.underlying0
  a0 := Tryd.isAgg0
  z0 := Tryd.sizeOf0
  v0 := Tryd.zeroValue0
  t24 := Tryd.underlying119
  a24 := Tryd.isAgg119
  z24 := Tryd.sizeOf119
  v24 := Tryd.zeroValue119
  t26 := Tryd.underlying9
  a26 := Tryd.isAgg9
  z26 := Tryd.sizeOf9
  v26 := Tryd.zeroValue9
  t28 := Tryd.underlying182
  a28 := Tryd.isAgg182
  z28 := Tryd.sizeOf182
  v28 := Tryd.zeroValue182
  i26 := by kernel_rfl }
def Tryd.sort134_ren : Go.Shelf.Ren := ⟨fun | 6 => 134 | 8 => 155 | 9 => 154 | 19 => 179 | 20 => 180 | 21 => 170 | 22 => 171 | 23 => 172 | 24 => 173 | 25 => 174 | 26 => 175 | 27 => 176 | 28 => 177 | 29 => 178 | 36 => 190 | 31 => 191 | 32 => 192 | 37 => 193 | 38 => 194 | 39 => 195 | 41 => 201 | n => n, fun | 27 => 119 | 29 => 9 | 3 => 3 | 32 => 167 | 26 => 119 | 0 => 0 | 44 => 165 | 46 => 203 | 4 => 4 | 36 => 239 | 35 => 238 | 41 => 244 | 5 => 5 | 9 => 9 | 53 => 255 | 57 => 259 | 63 => 268 | 64 => 269 | n => n, fun | n => n⟩
theorem Tryd.sort134 : Go.Proofs.SlLaysM.n6 Tryd.prog Tryd.sort134_ren := {
  mixed := by kernel_rfl
  f6 := ⟨Tryd.f134.name, by decide, Tryd.func134.trans (congrArg some (by kernel_rfl))⟩
  f8 := Tryd.func155.trans (congrArg some (by kernel_rfl))
  f9 := ⟨Tryd.f154.name, by decide, Tryd.func154.trans (congrArg some (by kernel_rfl))⟩
  f19 := Tryd.func179.trans (congrArg some (by kernel_rfl))
  f20 := Tryd.func180.trans (congrArg some (by kernel_rfl))
  f21 := ⟨Tryd.f170.name, by decide, Tryd.func170.trans (congrArg some (by kernel_rfl))⟩
  f22 := ⟨Tryd.f171.name, by decide, Tryd.func171.trans (congrArg some (by kernel_rfl))⟩
  f23 := ⟨Tryd.f172.name, by decide, Tryd.func172.trans (congrArg some (by kernel_rfl))⟩
  f24 := ⟨Tryd.f173.name, by decide, Tryd.func173.trans (congrArg some (by kernel_rfl))⟩
  f25 := ⟨Tryd.f174.name, by decide, Tryd.func174.trans (congrArg some (by kernel_rfl))⟩
  f26 := ⟨Tryd.f175.name, by decide, Tryd.func175.trans (congrArg some (by kernel_rfl))⟩
  f27 := ⟨Tryd.f176.name, by decide, Tryd.func176.trans (congrArg some (by kernel_rfl))⟩
  f28 := ⟨Tryd.f177.name, by decide, Tryd.func177.trans (congrArg some (by kernel_rfl))⟩
  f29 := ⟨Tryd.f178.name, by decide, Tryd.func178.trans (congrArg some (by kernel_rfl))⟩
  f31 := Tryd.func191.trans (congrArg some (by kernel_rfl))
  f32 := Tryd.func192.trans (congrArg some (by kernel_rfl))
  f36 := ⟨Tryd.f190.name, by decide, Tryd.func190.trans (congrArg some (by kernel_rfl))⟩
  f37 := ⟨Tryd.f193.name, by decide, Tryd.func193.trans (congrArg some (by kernel_rfl))⟩
  f38 := ⟨Tryd.f194.name, by decide, Tryd.func194.trans (congrArg some (by kernel_rfl))⟩
  f39 := ⟨Tryd.f195.name, by decide, Tryd.func195.trans (congrArg some (by kernel_rfl))⟩
  f41 := ⟨Tryd.f201.name, by decide, Tryd.func201.trans (congrArg some (by kernel_rfl))⟩
  t0 := Tryd.underlying0
  a0 := Tryd.isAgg0
  z0 := Tryd.sizeOf0
  v0 := Tryd.zeroValue0
  t3 := Tryd.underlying3
  a3 := Tryd.isAgg3
  z3 := Tryd.sizeOf3
  v3 := Tryd.zeroValue3
  t4 := Tryd.underlying4
  a4 := Tryd.isAgg4
  z4 := Tryd.sizeOf4
  v4 := Tryd.zeroValue4
  t5 := Tryd.underlying5
  a5 := Tryd.isAgg5
  z5 := Tryd.sizeOf5
  v5 := Tryd.zeroValue5
  t9 := Tryd.underlying9
  a9 := Tryd.isAgg9
  z9 := Tryd.sizeOf9
  v9 := Tryd.zeroValue9
  t26 := Tryd.underlying119
  a26 := Tryd.isAgg119
  z26 := Tryd.sizeOf119
  v26 := Tryd.zeroValue119
  t27 := Tryd.underlying119
  a27 := Tryd.isAgg119
  z27 := Tryd.sizeOf119
  v27 := Tryd.zeroValue119
  t29 := Tryd.underlying9
  a29 := Tryd.isAgg9
  z29 := Tryd.sizeOf9
  v29 := Tryd.zeroValue9
  t32 := Tryd.underlying167
  a32 := Tryd.isAgg167
  z32 := Tryd.sizeOf167
  v32 := Tryd.zeroValue167
  t35 := Tryd.underlying238
  a35 := Tryd.isAgg238
  z35 := Tryd.sizeOf238
  v35 := Tryd.zeroValue238
  t36 := Tryd.underlying239
  a36 := Tryd.isAgg239
  z36 := Tryd.sizeOf239
  v36 := Tryd.zeroValue239
  t41 := Tryd.underlying244
  a41 := Tryd.isAgg244
  z41 := Tryd.sizeOf244
  v41 := Tryd.zeroValue244
  t44 := Tryd.underlying165
  a44 := Tryd.isAgg165
  z44 := Tryd.sizeOf165
  v44 := Tryd.zeroValue165
  t46 := Tryd.underlying203
  a46 := Tryd.isAgg203
  z46 := Tryd.sizeOf203
  v46 := Tryd.zeroValue203
  t53 := Tryd.underlying255
  a53 := Tryd.isAgg255
  z53 := Tryd.sizeOf255
  v53 := Tryd.zeroValue255
  t57 := Tryd.underlying259
  a57 := Tryd.isAgg259
  z57 := Tryd.sizeOf259
  v57 := Tryd.zeroValue259
  t63 := Tryd.underlying268
  a63 := Tryd.isAgg268
  z63 := Tryd.sizeOf268
  v63 := Tryd.zeroValue268
  t64 := Tryd.underlying269
  a64 := Tryd.isAgg269
  z64 := Tryd.sizeOf269
  v64 := Tryd.zeroValue269 }
/-- slices.Sort's two contracts at this dump, at the fence that asks nothing. -/
theorem Tryd.sorts106 (m : Nat) : AnyZ.SortsIn Tryd.prog Tryd.sorted106_ren Fence.wide m :=
  ⟨fun blk off cap ss W hH hblk hsz => callsIn_wide.2 (AnyM.slices_Sort_string Tryd.sort134 blk off cap ss W hH hblk hsz),
   fun p cap W => callsIn_wide.2 (AnyM.slices_Sort_string_none Tryd.sort134 p cap W)⟩

/-- **maps.Keys[map[string]loop.example/s01594/impl.Node,string,loop.example/s01594/impl.Node], at whatever map, the nil one too:** a function value over ONE NEW BLOCK, which holds the map. -/
theorem Tryd.maps_Keys_107 (mb : Option Nat) (W : World) : CallsIn Fence.wide 5 Tryd.prog 107 #[.map mb] W fun e w' => e = .returned (.func (.func 135) #[] #[.pointer (some ⟨W.heap.size, 0, none⟩)]) ∧ w' = W.alloc (.cells #[.map mb] 177) :=
  AnyZ.keys_in Tryd.keys107 Fence.wide 5 trivial rfl mb W

set_option maxHeartbeats 1000000 in
/-- **slices.Sorted[string] AT WHAT maps.Keys[map[string]loop.example/s01594/impl.Node,string,loop.example/s01594/impl.Node] HANDED BACK FOR A MAP THAT IS NOT nil** ('w': the world AHEAD of maps.Keys' call): A NEW SLICE THAT HOLDS THE MAP's KEYS, SORTED; nil just where it has none; nothing that lay before has turned. -/
theorem Tryd.slices_Sorted_keys_106_107 {H : Type} (b nn : Nat) (D0 : DataW H) (R : Value → Option (DataW H × List MemPlace)) (w : World) (hown : w.ownsMap Tryd.prog 9 R b nn D0) (hmax : Maps.size D0 ≤ maxLen) (hbytes : Maps.size D0 * 16 ≤ 140737488355328) :
    CallsIn Fence.wide 5 Tryd.prog 106 #[.func (.func 135) #[] #[.pointer (some ⟨w.heap.size, 0, none⟩)]] (w.alloc (.cells #[.map (some b)] 177)) fun e w' => ∃ (v : Value) (ss : List (List UInt8)), e = .returned v ∧ ss.Perm (strKeys D0) ∧
      w'.ownsRow (w.alloc (.cells #[.map (some b)] 177)).heap.size 9 1 v ss.length ((ss.mergeSort (fun x y => decide (x ≤ y))).map encStr) ∧ (v = .slice none 0 0 ↔ ss = []) ∧ Below (w.alloc (.cells #[.map (some b)] 177)).heap.size (w.alloc (.cells #[.map (some b)] 177)) w' := by
  have hbl := hown.lt
  have hseq : SeqGives Fence.wide 2 Tryd.prog 135 #[.pointer (some ⟨w.heap.size, 0, none⟩)] encStr (fun ss => ss.Perm (strKeys D0)) (Maps.size D0) (w.alloc (.cells #[.map (some b)] 177)) :=
    AnyZ.keys_gives (ρ := Tryd.keys107_ren) { Tryd.keys107 with } Fence.wide _ trivial rfl (by omega) w.heap.size b nn D0 _ (by simp) (by simp) (by
      obtain ⟨es, clock, hb, Ft, hs, hD⟩ := hown
      exact ⟨es, clock, (Below.heap_alloc _ _ b hbl).trans hb, Ft, hs, hD⟩)
  exact AnyZ.sorted_in Tryd.sorted106 Fence.wide 5 trivial trivial trivial trivial rfl (by omega) (Tryd.sorts106 _) (enters_of Tryd.func134 (by kernel_rfl) rfl) 135 #[.pointer (some ⟨w.heap.size, 0, none⟩)] trivial (enters_of Tryd.func135 (by kernel_rfl) rfl) _ _ hmax hbytes _ hseq

end Go.Proofs
