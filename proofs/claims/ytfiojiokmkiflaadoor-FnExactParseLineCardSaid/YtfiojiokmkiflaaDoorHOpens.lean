/- Written by this session: what an argument reads as, in the print's own kinds: whole numbers, bools, strings, slices, structs, nested. No condition. -/
import Derived.Test.YtfiojiokmkiflaaDoorVWords
import Derived.DataElems
import Derived.DataReads
import Derived.ChangeArms
import Derived.Deep.Slices
import Derived.OpenShut
import Derived.ChangeShapes
import Derived.WideShapes
namespace Go.Proofs.YtfiojiokmkiflaaDoorH
open Go Go.RowKit Go.Proofs.YtfiojiokmkiflaaDoorW.PrintWords
open Go.ChangeShapes Go.WideShapes
set_option linter.unusedVariables false
/-- Whatever reads at type t is of kind d, and is as wf says. -/
def Opens {α : Type} (P : Program) (t : TypeId) (d : Kd α) (wf : α → Prop) : Prop :=
 ∀ {H : Type} (enc : TypeId × Value → H) (W : World) (base : Nat) (sp : Nat → Bool) (held : Bool) (fuel : Nat) (cs : List Value) (x : DataW H × List MemPlace), DataW.trod enc P W base sp held fuel t cs = some x → ∃ a, d.K W a cs ∧ wf a
theorem Opens.int {P : Program} {t : TypeId} {k : IntKind} (ht : P.underlying t = some (.int k)) : Opens P t (Kd.int k) (fun n => (Lit.int k n).wf = true) := by
 intro H enc W base sp held fuel cs x h
 obtain ⟨n, rfl, _, hw⟩ := DataW.trod_int ht h
 exact ⟨n, rfl, hw⟩
theorem Opens.bool {P : Program} {t : TypeId} (ht : P.underlying t = some .bool) : Opens P t Kd.bool (fun _ => True) := by
 intro H enc W base sp held fuel cs x h
 obtain ⟨n, rfl, _⟩ := DataW.trod_bool ht h
 exact ⟨n, rfl, trivial⟩
theorem Opens.string {P : Program} {t : TypeId} (ht : P.underlying t = some .string) : Opens P t Kd.string (fun s => s.size ≤ maxLen) := by
 intro H enc W base sp held fuel cs x h
 obtain ⟨n, rfl, _, hw⟩ := DataW.trod_string ht h
 exact ⟨n, rfl, hw⟩
theorem list_choose {α β : Type} (p : Nat → α → Prop) : ∀ n, (∀ i, i < n → ∃ a, p i a) → ∃ l : List α, l.length = n ∧ ∀ i a, l[i]? = some a → p i a := by
 intro n
 induction n with
 | zero => intro _; exact ⟨[], rfl, fun i a h => by simp at h⟩
 | succ n ih =>
  intro h
  obtain ⟨l, hl, hp⟩ := ih (fun i hi => h i (by omega))
  obtain ⟨a, ha⟩ := h n (by omega)
  refine ⟨l ++ [a], by simp [hl], fun i b hb => ?_⟩
  by_cases hi : i < n
  ·rw [List.getElem?_append_left (by omega)] at hb; exact hp i b hb
  ·rw [List.getElem?_append_right (by omega)] at hb
   have : i = n := by
    rcases Nat.lt_or_ge (i - l.length) 1 with h1 | h1
    ·omega
    ·rw [List.getElem?_eq_none (by simpa using h1)] at hb; cases hb
   subst this
   rw [hl, Nat.sub_self] at hb
   simp at hb; subst hb; exact ha
theorem Opens.slice {α : Type} {P : Program} {t e : TypeId} {d : Kd α} {wf : α → Prop} (ht : P.underlying t = some (.slice e)) (he : P.cellsOf e = d.sz) (h : Opens P e d wf) : Opens P t (Kd.slice e d) (fun l => l.length ≤ maxLen ∧ ∀ x ∈ l, wf x) := by
 intro H enc W base sp held fuel cs x hx
 rcases Go.Deep.open_slice ht hx with ⟨rfl, _⟩ | ⟨a, len, cap, m, n, D, Pl, rfl, _, hl, hm, hmm, _, hel⟩
 ·exact ⟨[], ⟨none, 0, rfl, Nat.le_refl _, rfl, Nat.zero_le _, fun h => absurd h (by simp)⟩, by simp, fun x h => by simp at h⟩
 ·have hlm : len ≤ m := by rw [hmm]; split <;> omega
  obtain ⟨l, hll, hp⟩ := list_choose (α := α) (β := α) (fun i x => wf x ∧ ∃ c, c.length = d.sz ∧ d.K W x c ∧ ∀ j u, c[j]? = some u → W.cell? (a.add (i * d.sz + j)) = some u) len (fun i hi => by
   obtain ⟨cs', h1, h2⟩ := hel i (by omega)
   obtain ⟨x, hk, hw⟩ := h enc W base sp held n cs' _ h2
   obtain ⟨_, hlen, hc⟩ := World.cells?_some h1
   refine ⟨x, hw, cs', d.K_len hk, hk, fun j u hj => ?_⟩
   have hjl : j < cs'.length := by
    rcases Nat.lt_or_ge j cs'.length with h3 | h3
    ·exact h3
    ·rw [List.getElem?_eq_none h3] at hj; cases hj
   have := hc j (by omega)
   rw [hj, Addr.add_add, he] at this
   exact this)
  subst hll
  refine ⟨l, ⟨some a, cap, rfl, hl, rfl, ?_, fun _ => ⟨a, rfl, fun j p hj => (hp j p hj).2⟩⟩, Nat.le_trans hl hm, fun x hx => ?_⟩
  ·have : l.length ≤ maxLen := Nat.le_trans hl hm
   simpa [maxLen] using this
  ·obtain ⟨i, hi, rfl⟩ := List.getElem_of_mem hx
   exact (hp i _ (List.getElem?_eq_getElem hi)).1
/-- A struct's fields from one on. -/
def OpensF {α : Type} (P : Program) (fs : List Field) (o : Nat) (d : Kd α) (wf : α → Prop) : Prop :=
 ∀ {H : Type} (enc : TypeId × Value → H) (W : World) (base : Nat) (sp : Nat → Bool) (held : Bool) (fuel : Nat) (cs : List Value),
  (∀ f ∈ fs, ∃ y, DataW.trod enc P W base sp held fuel f.type ((cs.drop f.offset).take (P.cellsOf f.type)) = some y) → ∃ a, d.K W a ((cs.drop o).take d.sz) ∧ wf a
theorem OpensF.one {α : Type} {P : Program} {f : Field} {o : Nat} {d : Kd α} {wf : α → Prop} (ho : f.offset = o) (hc : P.cellsOf f.type = d.sz) (h : Opens P f.type d wf) : OpensF P [f] o d wf := by
 intro H enc W base sp held fuel cs hx
 obtain ⟨y, hy⟩ := hx f List.mem_cons_self
 rw [ho, hc] at hy
 exact h enc W base sp held fuel _ _ hy
theorem OpensF.cons {α β : Type} {P : Program} {f : Field} {fs : List Field} {o : Nat} {a : Kd α} {b : Kd β} {wa : α → Prop} {wb : β → Prop} (ho : f.offset = o) (hc : P.cellsOf f.type = a.sz) (h : Opens P f.type a wa) (h2 : OpensF P fs (o + a.sz) b wb) : OpensF P (f :: fs) o (Kd.pair a b) (fun x => wa x.1 ∧ wb x.2) := by
 intro H enc W base sp held fuel cs hx
 obtain ⟨y, hy⟩ := hx f List.mem_cons_self
 rw [ho, hc] at hy
 obtain ⟨x1, hk1, hw1⟩ := h enc W base sp held fuel _ _ hy
 obtain ⟨x2, hk2, hw2⟩ := h2 enc W base sp held fuel cs (fun f hf => hx f (List.mem_cons_of_mem _ hf))
 refine ⟨(x1, x2), ⟨_, _, ?_, hk1, hk2⟩, hw1, hw2⟩
 show (cs.drop o).take (a.sz + b.sz) = _
 rw [List.take_add, List.drop_drop]
theorem Opens.struct {α : Type} {P : Program} {t : TypeId} {fs : Array Field} {d : Kd α} {wf : α → Prop} (ht : P.underlying t = some (.struct fs)) (hc : P.cellsOf t = d.sz) (h : OpensF P fs.toList 0 d wf) : Opens P t d wf := by
 intro H enc W base sp held fuel cs x hx
 obtain ⟨xs, n, rfl, _, hl, hxl, hf⟩ := DataW.trod_struct ht hx
 obtain ⟨a, hk, hw⟩ := h enc W base sp held n cs (fun f hfm => by
  obtain ⟨i, hi, rfl⟩ := List.getElem_of_mem hfm
  have := hf i _ (by rw [← Array.getElem?_toList]; exact List.getElem?_eq_getElem hi)
  rw [List.getElem?_eq_getElem (by simpa [hxl] using hi)] at this
  exact ⟨_, this⟩)
 rw [List.drop_zero, List.take_of_length_le (by omega)] at hk
 exact ⟨a, hk, hw⟩
theorem Opens.iso {α β : Type} {P : Program} {t : TypeId} {d : Kd α} {wf : α → Prop} (f : β → α) (g : α → β) (hfg : ∀ a, f (g a) = a) (h : Opens P t d wf) : Opens P t (Kd.iso d f) (fun x => wf (f x)) := by
 intro H enc W base sp held fuel cs x hx
 obtain ⟨a, hk, hw⟩ := h enc W base sp held fuel cs x hx
 exact ⟨g a, by show d.K W (f (g a)) cs; rw [hfg]; exact hk, by show wf (f (g a)); rw [hfg]; exact hw⟩
end Go.Proofs.YtfiojiokmkiflaaDoorH
