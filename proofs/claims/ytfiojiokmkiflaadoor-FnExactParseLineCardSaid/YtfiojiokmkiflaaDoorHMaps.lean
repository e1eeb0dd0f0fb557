/- Written by this session: a map in memory as a list of its entries in the order of first use: what a look-up, a store, a delete and len do to it. Keys: whole numbers or strings. No condition. -/
import Derived.Test.YtfiojiokmkiflaaDoorVWords
import Derived.Test.YtfiojiokmkiflaaDoorVKept
import Derived.MapKept
import Derived.ChangeMaps5
import Derived.Carry
namespace Go.Proofs.YtfiojiokmkiflaaDoorH
open Go Go.RowKit Go.Proofs.YtfiojiokmkiflaaDoorW.PrintWords Go.ChangeMaps
set_option linter.unusedVariables false
set_option linter.unusedSimpArgs false
set_option linter.unusedSectionVars false
def aget {κ α : Type} [DecidableEq κ] : List (κ × α) → κ → Option α
 | [], _ => none
 | (k', v) :: m, k => if k' = k then some v else aget m k
def aset {κ α : Type} [DecidableEq κ] : List (κ × α) → κ → α → List (κ × α)
 | [], k, v => [(k, v)]
 | (k', v') :: m, k, v => if k' = k then (k, v) :: m else (k', v') :: aset m k v
def adel {κ α : Type} [DecidableEq κ] : List (κ × α) → κ → List (κ × α)
 | [], _ => []
 | (k', v') :: m, k => if k' = k then m else (k', v') :: adel m k
section
variable {κ α : Type} [DecidableEq κ] {ke : κ → Value} {ve : α → Value} {P : Program} {w W : World} {b : Nat} {m : List (κ × α)} {K E T : TypeId} {d : TypeDesc}
/-- The keys' type: how it is compared, that it is no interface. -/
structure KeyOk (P : Program) (K : TypeId) (d : TypeDesc) (ke : κ → Value) : Prop where
 hu : P.underlying K = some d
 same : ∀ a b, Instr.sameNow d (ke a) (ke b) = some (decide (a = b))
 bits : ∀ a, Instr.sameBits 10000 (ke a) (ke a) = true
 chk : ∀ e a (w : World), (Instr.checkKey e 10000 K (ke a)).run P w = .ok () w
def MapIs (ke : κ → Value) (ve : α → Value) (w : World) (b : Nat) (m : List (κ × α)) : Prop :=
 ∃ es clock, w.heap[b]? = some (.map es clock) ∧ es.toList.map (fun e => (e.key, e.val)) = m.map (fun p => (ke p.1, ve p.2))
theorem MapIs.move (h : MapIs ke ve w b m) (hm : W.heap[b]? = w.heap[b]?) : MapIs ke ve W b m := by obtain ⟨es, c, h1, h2⟩ := h; exact ⟨es, c, hm.trans h1, h2⟩
theorem MapIs.lt (h : MapIs ke ve w b m) : b < w.heap.size := by obtain ⟨es, c, h1, h2⟩ := h; exact (Array.getElem?_eq_some_iff.1 h1).1
theorem MapIs.made (w : World) : MapIs ke ve (w.alloc (.map #[] 0)) w.heap.size [] := ⟨#[], 0, (MapKept.heap_alloc w _).1, rfl⟩
theorem find_none (same : ∀ a b, Instr.sameNow d (ke a) (ke b) = some (decide (a = b))) (k : κ) : ∀ (es : List MapEntry) (m : List (κ × α)) (i : Nat), es.map (fun e => (e.key, e.val)) = m.map (fun p => (ke p.1, ve p.2)) →
  aget m k = none → Instr.findNow d (ke k) es i = some none := by
 intro es
 induction es with
 | nil => intro m i h _; rfl
 | cons e es ih =>
  intro m i h hg
  cases m with
  | nil => simp at h
  | cons p m =>
   obtain ⟨k', v⟩ := p
   simp only [List.map_cons, List.cons.injEq, Prod.mk.injEq] at h
   obtain ⟨⟨h1, h2⟩, h3⟩ := h
   simp only [aget] at hg
   by_cases c : k' = k
   ·rw [if_pos c] at hg; cases hg
   ·rw [if_neg c] at hg
    simp only [Instr.findNow, h1, same, decide_eq_false (fun e => c e.symm : ¬ k = k')]
    exact ih m (i + 1) h3 hg
theorem find_some (same : ∀ a b, Instr.sameNow d (ke a) (ke b) = some (decide (a = b))) (k : κ) (v : α) : ∀ (es : List MapEntry) (m : List (κ × α)) (i : Nat), es.map (fun e => (e.key, e.val)) = m.map (fun p => (ke p.1, ve p.2)) →
  aget m k = some v → ∃ j, Instr.findNow d (ke k) es i = some (some (i + j, ve v)) ∧ (∃ e, es[j]? = some e ∧ e.key = ke k) ∧
   (∀ v2 : α, (es.modify j fun e => { e with key := ke k, val := ve v2 }).map (fun e => (e.key, e.val)) = (aset m k v2).map (fun p => (ke p.1, ve p.2))) ∧ (es.eraseIdx j).map (fun e => (e.key, e.val)) = (adel m k).map (fun p => (ke p.1, ve p.2)) := by
 intro es
 induction es with
 | nil => intro m i h hg; cases m with
  | nil => cases hg
  | cons p m => simp at h
 | cons e es ih =>
  intro m i h hg
  cases m with
  | nil => simp at h
  | cons p m =>
   obtain ⟨k', v'⟩ := p
   simp only [List.map_cons, List.cons.injEq, Prod.mk.injEq] at h
   obtain ⟨⟨h1, h2⟩, h3⟩ := h
   simp only [aget] at hg
   by_cases c : k' = k
   ·rw [if_pos c] at hg
    subst c
    refine ⟨0, ?_, ⟨e, rfl, h1⟩, fun v2 => ?_, ?_⟩
    ·simp only [Instr.findNow, h1, same, decide_true, h2, Nat.add_zero]
     rw [Option.some.inj hg]
    ·simp [aset, h3]
    ·simp [adel, h3]
   ·rw [if_neg c] at hg
    obtain ⟨j, e1, ⟨e0, e2, e3⟩, e4, e5⟩ := ih m (i + 1) h3 hg
    refine ⟨j + 1, ?_, ⟨e0, e2, e3⟩, fun v2 => ?_, ?_⟩
    ·simp only [Instr.findNow, h1, same, decide_eq_false (fun e => c e.symm : ¬ k = k')]
     rw [e1]; congr 3; omega
    ·simp only [List.modify_succ_cons, List.map_cons, aset, if_neg c, h1, h2, e4 v2]
    ·simp only [List.eraseIdx_cons_succ, List.map_cons, adel, if_neg c, h1, h2, e5]
theorem aset_new (k : κ) (v : α) (h : aget m k = none) : aset m k v = m ++ [(k, v)] := by
 induction m with
 | nil => rfl
 | cons p m ih =>
  obtain ⟨k', v'⟩ := p
  simp only [aget] at h
  by_cases c : k' = k
  ·rw [if_pos c] at h; cases h
  ·rw [if_neg c] at h
   simp only [aset, if_neg c, ih h, List.cons_append]
theorem run_findKey_is (hk : KeyOk P K d ke) (k : κ) (es : List MapEntry) (r : Option (Nat × Value)) (h : Instr.findNow d (ke k) es 0 = some r) (w : World) : (Instr.findKey K (ke k) es).run P w = .ok r w := by
 unfold Instr.findKey
 simp [run_underlying hk.hu, h, Result.andThen]
theorem run_lookup (hk : KeyOk P K d ke) (ht : P.underlying T = some (.map K E)) (k : κ) (z : Value) (hz : ∀ w, (zeroValue E).run P w = .ok z w) (h : MapIs ke ve w b m) :
  (Instr.lookup T (.map (some b)) (ke k) true).run P w = .ok (.tuple #[match aget m k with | some v => ve v | none => z, .bool (aget m k).isSome]) w := by
 obtain ⟨es, c, h1, h2⟩ := h
 unfold Instr.lookup
 cases hg : aget m k with
 | none =>
  have hf := find_none hk.same k es.toList m 0 h2 hg
  simp [run_underlying ht, MapKept.run_getObj_map h1, hk.chk, run_findKey_is hk k _ _ hf, hz, Result.andThen]
 | some v =>
  obtain ⟨j, hf, _, _⟩ := find_some hk.same k v es.toList m 0 h2 hg
  simp [run_underlying ht, MapKept.run_getObj_map h1, hk.chk, run_findKey_is hk k _ _ hf, hz, Result.andThen]
theorem run_lookup1 (hk : KeyOk P K d ke) (ht : P.underlying T = some (.map K E)) (k : κ) (z : Value) (hz : ∀ w, (zeroValue E).run P w = .ok z w) (h : MapIs ke ve w b m) :
  (Instr.lookup T (.map (some b)) (ke k) false).run P w = .ok (match aget m k with | some v => ve v | none => z) w := by
 obtain ⟨es, c, h1, h2⟩ := h
 unfold Instr.lookup
 cases hg : aget m k with
 | none =>
  have hf := find_none hk.same k es.toList m 0 h2 hg
  simp [run_underlying ht, MapKept.run_getObj_map h1, hk.chk, run_findKey_is hk k _ _ hf, hz, Result.andThen]
 | some v =>
  obtain ⟨j, hf, _, _⟩ := find_some hk.same k v es.toList m 0 h2 hg
  simp [run_underlying ht, MapKept.run_getObj_map h1, hk.chk, run_findKey_is hk k _ _ hf, hz, Result.andThen]
end
theorem str_key {P : Program} {K : TypeId} (hu : P.underlying K = some .string) : KeyOk P K .string (fun x : ByteArray => Value.string x) where
 hu := hu
 same := fun a b => by
  simp only [Instr.sameNow, Option.some.injEq]
  rw [Bool.eq_iff_iff, MapKept.bytes_beq]; simp
 bits := fun a => by simp only [Instr.sameBits]; exact (MapKept.bytes_beq a a).mpr rfl
 chk := fun e a w => by unfold Instr.checkKey; simp [run_underlying hu]
end Go.Proofs.YtfiojiokmkiflaaDoorH
