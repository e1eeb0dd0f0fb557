/- Written by this session: a map keyed by strings, its entries in the order of first use, with the stamps that a range over it needs: what a look-up, a store, a delete and len do to it, and that it is a map in the kit's own word. No condition. -/
import Derived.Test.YtfiojiokmkiflaaDoorHMaps
import Derived.Maps.Own
import Derived.Maps.OwnSet
import Derived.Sort.KeysCollected
namespace Go.Proofs.YtfiojiokmkiflaaDoorH
open Go Go.RowKit Go.Proofs.YtfiojiokmkiflaaDoorW.PrintWords Go.ChangeMaps Go.Maps Go.WideShapes Go.WideMaps
set_option linter.unusedVariables false
set_option linter.unusedSimpArgs false
set_option linter.unusedSectionVars false
section
variable {α : Type} {ve : α → Value} {P : Program} {w W : World} {b : Nat} {m : List (ByteArray × α)} {K E T : TypeId}
def MapS (ve : α → Value) (w : World) (b : Nat) (m : List (ByteArray × α)) : Prop :=
 ∃ es clock, w.heap[b]? = some (.map es clock) ∧ es.toList.map (fun e => (e.key, e.val)) = m.map (fun p => (Value.string p.1, ve p.2)) ∧ Go.MapKept.Stamped es clock
theorem MapS.is (h : MapS ve w b m) : MapIs (fun x : ByteArray => Value.string x) ve w b m := by obtain ⟨es, c, h1, h2, _⟩ := h; exact ⟨es, c, h1, h2⟩
theorem MapS.move (h : MapS ve w b m) (hm : W.heap[b]? = w.heap[b]?) : MapS ve W b m := by obtain ⟨es, c, h1, h2, h3⟩ := h; exact ⟨es, c, hm.trans h1, h2, h3⟩
theorem MapS.lt (h : MapS ve w b m) : b < w.heap.size := h.is.lt
theorem MapS.made (w : World) : MapS ve (w.alloc (.map #[] 0)) w.heap.size [] := ⟨#[], 0, (MapKept.heap_alloc w _).1, rfl, MapKept.stamped_empty 0⟩
theorem MapS.drew (h : MapS ve w b m) : MapS ve w.drew b m := h
theorem MapS.len (h : MapS ve w b m) : ∃ es c, w.heap[b]? = some (.map es c) ∧ es.size = m.length := by
 obtain ⟨es, c, h1, h2, _⟩ := h
 refine ⟨es, c, h1, ?_⟩
 have := congrArg List.length h2
 simpa using this
theorem run_updateS (hu : P.underlying K = some .string) (ht : P.underlying T = some (.map K E)) (k : ByteArray) (v : α) (h : MapS ve w b m) :
  ∃ w', (Instr.mapUpdate T (.map (some b)) (.string k) (ve v)).run P w = .ok () w' ∧ MapS ve w' b (aset m k v) ∧ w.grownBy w' (some b) ∧ w'.heap.size = w.heap.size := by
 have hk := str_key hu
 obtain ⟨es, c, h1, h2, h3⟩ := h
 cases hg : aget m k with
 | none =>
  have hf := find_none hk.same k es.toList m 0 h2 hg
  refine ⟨setBlock w b (.map (es.push { key := .string k, val := ve v, born := c }) (c + 1)), ?_, ⟨_, _, heap_setBlock_same h1 _, ?_, ?_⟩, ⟨rfl, rfl, rfl, by simp [setBlock], fun i _ hi => heap_setBlock_other h1 _ (fun e => hi (by rw [e]))⟩, by simp [setBlock]⟩
  ·unfold Instr.mapUpdate
   simp [run_underlying ht, MapKept.run_getObj_map h1, hk.chk, run_findKey_is hk k _ _ hf, MapKept.run_setObj_map _ h1, Result.andThen, setBlock]
  ·rw [aset_new k v hg]; simp [h2]
  ·refine MapKept.stamped_push h3 fun x hx e => ?_
   have hm : (x.key, x.val) ∈ m.map (fun p => (Value.string p.1, ve p.2)) := by rw [← h2]; exact List.mem_map.mpr ⟨x, hx, rfl⟩
   obtain ⟨p, hp, e2⟩ := List.mem_map.mp hm
   have e3 : p.1 = k := by
    have := (Prod.mk.injEq _ _ _ _).mp e2 |>.1
    rw [e] at this; injection this
   have : ∀ l : List (ByteArray × α), p ∈ l → aget l k ≠ none := by
    intro l
    induction l with
    | nil => intro h; cases h
    | cons q l ih =>
     intro h
     obtain ⟨k', v'⟩ := q
     simp only [aget]
     by_cases cc : k' = k
     ·rw [if_pos cc]; simp
     ·rw [if_neg cc]
      rcases List.mem_cons.mp h with h | h
      ·rw [h] at e3; exact absurd e3 cc
      ·exact ih h
   exact this m hp hg
 | some v0 =>
  obtain ⟨j, hf, ⟨e0, e1, e2⟩, e4, _⟩ := find_some hk.same k v0 es.toList m 0 h2 hg
  have e1' : es[j]? = some e0 := by simpa using e1
  refine ⟨setBlock w b (.map (es.modify j fun e => { e with key := .string k, val := ve v }) c), ?_, ⟨_, _, heap_setBlock_same h1 _, ?_, ?_⟩, ⟨rfl, rfl, rfl, by simp [setBlock], fun i _ hi => heap_setBlock_other h1 _ (fun e => hi (by rw [e]))⟩, by simp [setBlock]⟩
  ·unfold Instr.mapUpdate
   simp [run_underlying ht, MapKept.run_getObj_map h1, hk.chk, run_findKey_is hk k _ _ hf, Instr.keyThatStays, e1', e2, hk.bits, MapKept.run_setObj_map _ h1, Result.andThen, setBlock]
  ·rw [Array.toList_modify]; exact e4 v
  ·exact MapKept.stamped_modify h3 j _ (fun _ _ => rfl) (fun e he hj => by rw [e1'] at hj; injection hj with hj; rw [← hj, e2])
def nilR (_ : Value) : Option (DataW Unit × List MemPlace) := some (.nil, [])
/-- The map in the kit's own word. -/
theorem MapS.owns (hu : P.underlying K = some .string) (h : MapS ve w b m) (hs : ∀ p ∈ m, p.1.size ≤ maxLen) (hl : m.length ≤ maxLen) :
  ∃ D, w.ownsMap P K nilR b m.length D ∧ (strKeys D).Perm (m.map fun p => p.1.data.toList) ∧ Maps.size D ≤ m.length := by
 obtain ⟨es, c, h1, h2, h3⟩ := h
 have hsz : es.size = m.length := by
  have := congrArg List.length h2
  simpa using this
 have hkey : ∀ x ∈ es.toList, ∃ p ∈ m, x.key = .string p.1 := by
  intro x hx
  have hm : (x.key, x.val) ∈ m.map (fun p => (Value.string p.1, ve p.2)) := by rw [← h2]; exact List.mem_map.mpr ⟨x, hx, rfl⟩
  obtain ⟨p, hp, e2⟩ := List.mem_map.mp hm
  exact ⟨p, hp, ((Prod.mk.injEq _ _ _ _).mp e2 |>.1).symm⟩
 have hrd : ∀ x ∈ es.toList, ∀ s, x.key = .string s → s.size ≤ maxLen → Go.WideElems.rd (H := Unit) P K nilR x = some (.string s.data.toList, .nil) := by
  intro x hx s e hl_
  unfold Go.WideElems.rd
  rw [e, keyOf_string_mk hu hl_]
  rfl
 refine ⟨_, ⟨es, c, h1, ⟨by omega, h3, fun x hx => ?_⟩, by omega, rfl⟩, ?_, ?_⟩
 ·obtain ⟨p, hp, e⟩ := hkey x hx
  exact ⟨_, hrd x hx _ e (hs p hp)⟩
 ·show (((es.toList.map (Go.WideElems.rg P K nilR)).foldr DataW.insert []).map fun p => strOf p.1).Perm _
  refine ((sorted_perm _).map _).trans ?_
  rw [List.map_map]
  have : (es.toList.map ((fun p : Lit × DataW Unit => strOf p.1) ∘ Go.WideElems.rg P K nilR)) = m.map fun p => p.1.data.toList := by
   have e1 : es.toList.map (fun e => e.key) = m.map (fun p => Value.string p.1) := by
    have := congrArg (List.map Prod.fst) h2
    simpa [List.map_map, Function.comp_def] using this
   have e2 : es.toList.map ((fun p : Lit × DataW Unit => strOf p.1) ∘ Go.WideElems.rg P K nilR) = (es.toList.map (fun e => e.key)).map (fun v => match v with | .string s => s.data.toList | _ => []) := by
    rw [List.map_map]
    refine List.map_congr_left fun x hx => ?_
    obtain ⟨p, hp, e⟩ := hkey x hx
    show strOf (Go.WideElems.rg P K nilR x).1 = (match x.key with | .string s => s.data.toList | _ => [])
    rw [Go.WideElems.rg_of (hrd x hx _ e (hs p hp)), e]
    rfl
   rw [e2, e1, List.map_map]
   rfl
  rw [this]
 ·have : Maps.size (DataW.map ((es.toList.map (Go.WideElems.rg (H := Unit) P K nilR)).foldr DataW.insert [])) = es.size := by
   show ((es.toList.map (Go.WideElems.rg (H := Unit) P K nilR)).foldr DataW.insert []).length = _
   rw [length_sorted]; simp
  omega
theorem ins_step {ops : Array Oper} {Q : Exit → Act → World → Prop} {rest : List Oper} {o : Oper} {a : Act} {x y z : Operand} (k : ByteArray) (v : α) (hgd : o.guard = none) (ho : o.op = .insert T x y z) (hN : o.dst = none) (hx : a.eval x = .map (some b)) (hy : a.eval y = .string k) (hz : a.eval z = ve v)
  (hu : P.underlying K = some .string) (ht : P.underlying T = some (.map K E)) (hm : MapS ve W b m) (h : ∀ w1, MapS ve w1 b (aset m k v) → W.grownBy w1 (some b) → wpList P ops Q rest a w1) : wpList P ops Q (o :: rest) a W := by
 obtain ⟨w1, hup, hm1, hg1, _⟩ := run_updateS hu ht k v hm
 have hrun : (execOp a.eval o).run P W = .ok .skip w1 := by
  unfold execOp
  simp [ho, hx, hy, hz, hup]
 refine wpList_plain hgd fun K' hK => ?_
 unfold Oper.wp
 rw [hrun]
 show K' (a.put o.dst undef) _
 rw [hN]
 exact hK _ _ (h _ hm1 hg1)
theorem made_below {w1 : World} {ob : Obj} (h : (W.alloc ob).grownBy w1 (some W.heap.size)) : Below W.heap.size W w1 :=
 zv (zh (Below.refl _ _) _) (some W.heap.size) (by simp) h (fun k_ hk_ => by injection hk_ with hk_; omega)
theorem mk_step {ops : Array Oper} {Q : Exit → Act → World → Prop} {rest : List Oper} {o : Oper} {a : Act} (hgd : o.guard = none) (ho : o.op = .makeMap T none) {N : Tmp} (_hd : o.dst = some N) (ht : P.underlying T = some (.map K E))
  (h : wpList P ops Q rest (a.put o.dst (.map (some W.heap.size))) (W.alloc (.map #[] 0))) : wpList P ops Q (o :: rest) a W := by
 refine Kd.event_run hgd (v := .map (some W.heap.size)) (w1 := W.alloc (.map #[] 0)) ?_ h
 have hm := @run_makeMap P
 unfold execOp
 simp [ho, hm]
theorem MapS.alloc (h : MapS ve W b m) (o : Obj) : MapS ve (W.alloc o) b m := h.move ((zh (Below.refl W.heap.size W) o).block _ h.lt)
/-- What rows hold stays. -/
def CK (W w : World) : Prop := ∀ (a : Addr) (u : Value), W.cell? a = some u → w.cell? a = some u
theorem CK.refl (W : World) : CK W W := fun _ _ h => h
theorem CK.trans {w1 w2 : World} (h : CK W w1) (k : CK w1 w2) : CK W w2 := fun a u h_ => k a u (h a u h_)
theorem CK.below {w1 : World} (h : Below W.heap.size W w1) : CK W w1 := fun _ _ h_ => zk h h_
theorem CK.map {w1 : World} (hm : MapS ve W b m) (h : W.grownBy w1 (some b)) : CK W w1 := fun a u h_ => by
 have hl := World.block_lt_of_cell? W a h_
 have hne : a.block ≠ b := by
  intro e
  obtain ⟨es, c, h1, _⟩ := hm
  rw [← e] at h1
  simp [World.cell?, h1] at h_
 have := h.block a.block hl (by intro e; injection e with e; exact hne e)
 simpa [World.cell?, this] using h_
theorem aget_aset (m : List (ByteArray × α)) (k k' : ByteArray) (v : α) : aget (aset m k v) k' = if k = k' then some v else aget m k' := by
 induction m with
 | nil => simp [aset, aget]
 | cons p m ih =>
  obtain ⟨q, u⟩ := p
  simp only [aset]
  by_cases c : q = k
  ·rw [if_pos c]
   simp only [aget]
   by_cases d : k = k'
   ·rw [if_pos d, if_pos d]
   ·rw [if_neg d, if_neg d, if_neg (by rw [c]; exact d)]
  ·rw [if_neg c]
   simp only [aget]
   by_cases d : q = k'
   ·rw [if_pos d, if_pos d, if_neg (by intro e; exact c (by rw [d, e]))]
   ·rw [if_neg d, if_neg d, ih]
end
end Go.Proofs.YtfiojiokmkiflaaDoorH
