/- Written by this session: a map keyed by strings, its entries in the order of first use, with the stamps that a range over it needs: what a look-up, a store, a delete and len do to it, and that it is a map in the kit's own word. No condition. -/
import Derived.Test.YtfiojiokmkiflaaDoorHMaps
import Derived.Maps.Own
import Derived.Maps.OwnSet
import Derived.Sort.KeysCollected
namespace Go.Proofs.YtfiojiokmkiflaaDoorH
open Go Go.RowKit Go.Proofs.YtfiojiokmkiflaaDoorW.PrintWords Go.ChangeMaps Go.Maps Go.WideShapes Go.WideMaps
set_option linter.unusedVariables false
set_option linter.unusedSimpArgs false
set_option linter.unusedSectionVars false
section
variable {α : Type} {ve : α → Value} {P : Program} {w W : World} {b : Nat} {m : List (ByteArray × α)} {K E T : TypeId}
def MapS (ve : α → Value) (w : World) (b : Nat) (m : List (ByteArray × α)) : Prop :=
 ∃ es clock, w.heap[b]? = some (.map es clock) ∧ es.toList.map (fun e => (e.key, e.val)) = m.map (fun p => (Value.string p.1, ve p.2)) ∧ Go.MapKept.Stamped es clock
theorem MapS.is (h : MapS ve w b m) : MapIs (fun x : ByteArray => Value.string x) ve w b m := by obtain ⟨es, c, h1, h2, _⟩ := h; exact ⟨es, c, h1, h2⟩
theorem MapS.move (h : MapS ve w b m) (hm : W.heap[b]? = w.heap[b]?) : MapS ve W b m := by obtain ⟨es, c, h1, h2, h3⟩ := h; exact ⟨es, c, hm.trans h1, h2, h3⟩
theorem MapS.lt (h : MapS ve w b m) : b < w.heap.size := h.is.lt
theorem MapS.made (w : World) : MapS ve (w.alloc (.map #[] 0)) w.heap.size [] := ⟨#[], 0, (MapKept.heap_alloc w _).1, rfl, MapKept.stamped_empty 0⟩
theorem MapS.drew (h : MapS ve w b m) : MapS ve w.drew b m := h
theorem MapS.len (h : MapS ve w b m) : ∃ es c, w.heap[b]? = some (.map es c) ∧ es.size = m.length := by
 obtain ⟨es, c, h1, h2, _⟩ := h
 refine ⟨es, c, h1, ?_⟩
 have := congrArg List.length h2
 simpa using this
theorem run_updateS (hu : P.underlying K = some .string) (ht : P.underlying T = some (.map K E)) (k : ByteArray) (v : α) (h : MapS ve w b m) :
  ∃ w', (Instr.mapUpdate T (.map (some b)) (.string k) (ve v)).run P w = .ok () w' ∧ MapS ve w' b (aset m k v) ∧ w.grownBy w' (some b) ∧ w'.heap.size = w.heap.size := by
 have hk := str_key hu
 obtain ⟨es, c, h1, h2, h3⟩ := h
 cases hg : aget m k with
 | none =>
  have hf := find_none hk.same k es.toList m 0 h2 hg
  refine ⟨setBlock w b (.map (es.push { key := .string k, val := ve v, born := c }) (c + 1)), ?_, ⟨_, _, heap_setBlock_same h1 _, ?_, ?_⟩, ⟨rfl, rfl, rfl, by simp [setBlock], fun i _ hi => heap_setBlock_other h1 _ (fun e => hi (by rw [e]))⟩, by simp [setBlock]⟩
  ·unfold Instr.mapUpdate
   simp [run_underlying ht, MapKept.run_getObj_map h1, hk.chk, run_findKey_is hk k _ _ hf, MapKept.run_setObj_map _ h1, Result.andThen, setBlock]
  ·rw [aset_new k v hg]; simp [h2]
  ·refine MapKept.stamped_push h3 fun x hx e => ?_
   have hm : (x.key, x.val) ∈ m.map (fun p => (Value.string p.1, ve p.2)) := by rw [← h2]; exact List.mem_map.mpr ⟨x, hx, rfl⟩
   obtain ⟨p, hp, e2⟩ := List.mem_map.mp hm
   have e3 : p.1 = k := by
    have := (Prod.mk.injEq _ _ _ _).mp e2 |>.1
    rw [e] at this; injection this
   have : ∀ l : List (ByteArray × α), p ∈ l → aget l k ≠ none := by
    intro l
    induction l with
    | nil => intro h; cases h
    | cons q l ih =>
     intro h
     obtain ⟨k', v'⟩ := q
     simp only [aget]
     by_cases cc : k' = k
     ·rw [if_pos cc]; simp
     ·rw [if_neg cc]
      rcases List.mem_cons.mp h with h | h
      ·rw [h] at e3; exact absurd e3 cc
      ·exact ih h
   exact this m hp hg
 | some v0 =>
  obtain ⟨j, hf, ⟨e0, e1, e2⟩, e4, _⟩ := find_some hk.same k v0 es.toList m 0 h2 hg
  have e1' : es[j]? = some e0 := by simpa using e1
  refine ⟨setBlock w b (.map (es.modify j fun e => { e with key := .string k, val := ve v }) c), ?_, ⟨_, _, heap_setBlock_same h1 _, ?_, ?_⟩, ⟨rfl, rfl, rfl, by simp [setBlock], fun i _ hi => heap_setBlock_other h1 _ (fun e => hi (by rw [e]))⟩, by simp [setBlock]⟩
  ·unfold Instr.mapUpdate
   simp [run_underlying ht, MapKept.run_getObj_map h1, hk.chk, run_findKey_is hk k _ _ hf, Instr.keyThatStays, e1', e2, hk.bits, MapKept.run_setObj_map _ h1, Result.andThen, setBlock]
  ·rw [Array.toList_modify]; exact e4 v
  ·exact MapKept.stamped_modify h3 j _ (fun _ _ => rfl) (fun e he hj => by rw [e1'] at hj; injection hj with hj; rw [← hj, e2])
theorem adel_none {k : ByteArray} (h : aget m k = none) : adel m k = m := by
 induction m with
 | nil => rfl
 | cons p m ih =>
  obtain ⟨k', v'⟩ := p
  simp only [aget] at h
  by_cases c : k' = k
  ·rw [if_pos c] at h; cases h
  ·rw [if_neg c] at h
   simp only [adel, if_neg c, ih h]
theorem run_deleteS (hu : P.underlying K = some .string) (ht : P.underlying T = some (.map K E)) (k : ByteArray) (ty : TypeId) (h : MapS ve w b m) :
  ∃ w', (Builtin.delete_ #[T, K] ty #[.map (some b), .string k]).run P w = .ok (.tuple #[]) w' ∧ MapS ve w' b (adel m k) ∧ w.grownBy w' (some b) ∧ w'.heap.size = w.heap.size := by
 have hk := str_key hu
 obtain ⟨es, c, h1, h2, h3⟩ := h
 cases hg : aget m k with
 | none =>
  have hf := find_none hk.same k es.toList m 0 h2 hg
  refine ⟨setBlock w b (.map es c), ?_, ⟨_, _, heap_setBlock_same h1 _, ?_, h3⟩, ⟨rfl, rfl, rfl, by simp [setBlock], fun i _ hi => heap_setBlock_other h1 _ (fun e => hi (by rw [e]))⟩, by simp [setBlock]⟩
  ·unfold Builtin.delete_
   simp [run_underlying ht, MapKept.run_getObj_map h1, hk.chk, run_findKey_is hk k _ _ hf, MapKept.run_setObj_map _ h1, Result.andThen, setBlock]
  ·rw [adel_none hg]; exact h2
 | some v0 =>
  obtain ⟨j, hf, ⟨e0, e1, e2⟩, _, e5⟩ := find_some hk.same k v0 es.toList m 0 h2 hg
  have hj : j < es.size := by
   have := (List.getElem?_eq_some_iff.mp e1).1
   simpa using this
  refine ⟨setBlock w b (.map (es.eraseIdxIfInBounds j) c), ?_, ⟨_, _, heap_setBlock_same h1 _, ?_, MapKept.stamped_erase h3 j⟩, ⟨rfl, rfl, rfl, by simp [setBlock], fun i _ hi => heap_setBlock_other h1 _ (fun e => hi (by rw [e]))⟩, by simp [setBlock]⟩
  ·unfold Builtin.delete_
   simp [run_underlying ht, MapKept.run_getObj_map h1, hk.chk, run_findKey_is hk k _ _ hf, MapKept.run_setObj_map _ h1, Result.andThen, setBlock]
  ·rw [← e5]
   simp [Array.eraseIdxIfInBounds, hj]
def nilR (_ : Value) : Option (DataW Unit × List MemPlace) := some (.nil, [])
/-- The map in the kit's own word. -/
theorem MapS.owns (hu : P.underlying K = some .string) (h : MapS ve w b m) (hs : ∀ p ∈ m, p.1.size ≤ maxLen) (hl : m.length ≤ maxLen) :
  ∃ D, w.ownsMap P K nilR b m.length D ∧ (strKeys D).Perm (m.map fun p => p.1.data.toList) ∧ Maps.size D ≤ m.length := by
 obtain ⟨es, c, h1, h2, h3⟩ := h
 have hsz : es.size = m.length := by
  have := congrArg List.length h2
  simpa using this
 have hkey : ∀ x ∈ es.toList, ∃ p ∈ m, x.key = .string p.1 := by
  intro x hx
  have hm : (x.key, x.val) ∈ m.map (fun p => (Value.string p.1, ve p.2)) := by rw [← h2]; exact List.mem_map.mpr ⟨x, hx, rfl⟩
  obtain ⟨p, hp, e2⟩ := List.mem_map.mp hm
  exact ⟨p, hp, ((Prod.mk.injEq _ _ _ _).mp e2 |>.1).symm⟩
 have hrd : ∀ x ∈ es.toList, ∀ s, x.key = .string s → s.size ≤ maxLen → Go.WideElems.rd (H := Unit) P K nilR x = some (.string s.data.toList, .nil) := by
  intro x hx s e hl_
  unfold Go.WideElems.rd
  rw [e, keyOf_string_mk hu hl_]
  rfl
 refine ⟨_, ⟨es, c, h1, ⟨by omega, h3, fun x hx => ?_⟩, by omega, rfl⟩, ?_, ?_⟩
 ·obtain ⟨p, hp, e⟩ := hkey x hx
  exact ⟨_, hrd x hx _ e (hs p hp)⟩
 ·show (((es.toList.map (Go.WideElems.rg P K nilR)).foldr DataW.insert []).map fun p => strOf p.1).Perm _
  refine ((sorted_perm _).map _).trans ?_
  rw [List.map_map]
  have : (es.toList.map ((fun p : Lit × DataW Unit => strOf p.1) ∘ Go.WideElems.rg P K nilR)) = m.map fun p => p.1.data.toList := by
   have e1 : es.toList.map (fun e => e.key) = m.map (fun p => Value.string p.1) := by
    have := congrArg (List.map Prod.fst) h2
    simpa [List.map_map, Function.comp_def] using this
   have e2 : es.toList.map ((fun p : Lit × DataW Unit => strOf p.1) ∘ Go.WideElems.rg P K nilR) = (es.toList.map (fun e => e.key)).map (fun v => match v with | .string s => s.data.toList | _ => []) := by
    rw [List.map_map]
    refine List.map_congr_left fun x hx => ?_
    obtain ⟨p, hp, e⟩ := hkey x hx
    show strOf (Go.WideElems.rg P K nilR x).1 = (match x.key with | .string s => s.data.toList | _ => [])
    rw [Go.WideElems.rg_of (hrd x hx _ e (hs p hp)), e]
    rfl
   rw [e2, e1, List.map_map]
   rfl
  rw [this]
 ·have : Maps.size (DataW.map ((es.toList.map (Go.WideElems.rg (H := Unit) P K nilR)).foldr DataW.insert [])) = es.size := by
   show ((es.toList.map (Go.WideElems.rg (H := Unit) P K nilR)).foldr DataW.insert []).length = _
   rw [length_sorted]; simp
  omega
end
end Go.Proofs.YtfiojiokmkiflaaDoorH
