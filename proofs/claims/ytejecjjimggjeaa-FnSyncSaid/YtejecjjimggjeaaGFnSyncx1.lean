/- Written by give.py, a program of this session, that runs the kit's print and lays contracts proved by hand beside it. -/
import Derived.Test.YtejecjjimggjeaaGFnSyncx0
namespace Go.Proofs.Ytejecjjimggjeaa.GFnSync
open Go.RowKit Go.Proofs.YtejecjjimggjeaaW.PrintWords Go.Proofs.YtejecjjimggjeaaW.PrintLast Go.Proofs.YtejecjjimggjeaaW.PrintMore
attribute [local go_sem] max2_int min2_int max_two min_two max_three min_three max_four min_four
attribute [local go_sem high] Go.Proofs.YtejecjjimggjeaaH.str_leq Go.Proofs.YtejecjjimggjeaaH.str_geq Go.Proofs.YtejecjjimggjeaaH.str_gtr   -- for this text's walks alone
set_option linter.unusedVariables false
set_option linter.unusedSimpArgs false

structure BelX (g : Nat) (w0 W : World) : Prop where
 os : W.os = w0.os
 tape : W.tape = w0.tape
 output : W.output = w0.output
 keep : KeepBut w0 W g none
section
variable {g : Nat} {w0 W W2 : World}
theorem BelX.refl (g : Nat) (w : World) : BelX g w w := ⟨rfl, rfl, rfl, KeepBut.refl w g none⟩
theorem BelX.size (h : BelX g w0 W) : w0.heap.size ≤ W.heap.size := h.keep.1
theorem belx_step (h : BelX g w0 W) (k : Below W.heap.size W W2) : BelX g w0 W2 := ⟨k.os.trans h.os, k.tape.trans h.tape, k.output.trans h.output, h.keep.trans (KeepBut.of_below k g none) (.inl rfl)⟩
theorem bx [i : Ltr W W2] (h : BelX g w0 W) : BelX g w0 W2 := belx_step h i.h
theorem belx_alloc (h : BelX g w0 W) (o : Obj) : BelX g w0 (W.alloc o) := belx_step h (zf (Below.refl _ _) o)
theorem belx_drewN (h : BelX g w0 W) (m : Nat) : BelX g w0 (W.drewN m) := belx_step h (ze (Below.refl _ _) m)
theorem belx_drew (h : BelX g w0 W) : BelX g w0 W.drew := belx_step h (zi (Below.refl _ _))
theorem belx_setg (h : BelX g w0 W) {j : Nat} {v : Value} : BelX g w0 (W.setCell ⟨g, j, none⟩ v) := ⟨h.os, h.tape, h.output, KeepBut.set_ h.keep j v⟩
theorem belx_set (h : BelX g w0 W) {p j : Nat} {v : Value} (hp : w0.heap.size ≤ p) : BelX g w0 (W.setCell ⟨p, j, none⟩ v) :=
 ⟨h.os, h.tape, h.output, by simpa [World.setCell] using h.keep.1, fun i hi hg hr => (Below.heap_setCell W ⟨p, j, none⟩ v i (by show i ≠ p; omega)).trans (h.keep.2 i hi hg hr)⟩
theorem belx_setA (h : BelX g w0 W) {p : Addr} {v : Value} (hp : w0.heap.size ≤ p.block) : BelX g w0 (W.setCell p v) :=
 ⟨h.os, h.tape, h.output, by simpa [World.setCell] using h.keep.1, fun i hi hg hr => (Below.heap_setCell W p v i (by omega)).trans (h.keep.2 i hi hg hr)⟩
theorem belx_weaken {B : Nat} (h : BelX g w0 W) (hB : w0.heap.size ≤ B) (k : Below B W W2) : BelX g w0 W2 :=
 ⟨k.os.trans h.os, k.tape.trans h.tape, k.output.trans h.output, Nat.le_trans h.keep.1 k.size, fun i hi hg hr => (k.block i (Nat.lt_of_lt_of_le hi hB)).trans (h.keep.2 i hi hg hr)⟩
theorem belx_cell (h : BelX g w0 W) {a : Addr} {v : Value} (hc : w0.cell? a = some v) (hne : a.block ≠ g) : W.cell? a = some v := by
 have := h.keep.2 a.block (World.block_lt_of_cell? w0 a hc) hne (by simp)
 simpa [World.cell?, this] using hc
theorem belx_out {wb : World} (hB : Below wb.heap.size wb W) (hX : BelX g w0 W) (hX2 : BelX g w0 W2) (hk : KeepBut W W2 g none) (hg : wb.heap.size ≤ g) : Below wb.heap.size wb W2 :=
 ⟨(hX2.os.trans hX.os.symm).trans hB.os, (hX2.tape.trans hX.tape.symm).trans hB.tape, (hX2.output.trans hX.output.symm).trans hB.output, Nat.le_trans hB.size hk.1, fun i hi => (hk.2 i (Nat.lt_of_lt_of_le hi hB.size) (by omega) (by simp)).trans (hB.block i hi)⟩
end
/-- A state of type 93 at block g of W; what its slices lead to came in by w0. -/
def IsS93 (w0 W : World) (g : Nat) (f0 : List Int) (f1 : Int) (f2 : Int) (f3 : Int) : Prop := ∃ A0 c0, W.heap[g]? = some (.cells #[.slice A0 f0.length c0, .int .i64 f1, .int .i64 f2, .int .i64 f3] 93 (0, 0)) ∧ (g < w0.heap.size ∧ ∀ ad, A0 = some ad → 0 < f0.length → ad.block ≠ g) ∧ Kd.C (Kd.int .u8) w0 A0 f0.length f0
theorem IsS93.grown {w0 W : World} {g : Nat} {f0 : List Int} {f1 : Int} {f2 : Int} {f3 : Int} {W1 : World} {row : Option Nat} (h : IsS93 w0 W g f0 f1 f2 f3) (hw : W.grownBy W1 row) (hne : some g ≠ row) : IsS93 w0 W1 g f0 f1 f2 f3 := by
 obtain ⟨A0, c0, hb, hg, hr0⟩ := h
 exact ⟨A0, c0, zD hb hw hne, hg, hr0⟩
theorem IsS93.kept {w0 W : World} {g : Nat} {f0 : List Int} {f1 : Int} {f2 : Int} {f3 : Int} {W1 : World} {S : Nat → Prop} (h : IsS93 w0 W g f0 f1 f2 f3) (hk : Kept W W1 S) (hne : ¬ S g) : IsS93 w0 W1 g f0 f1 f2 f3 := by
 obtain ⟨A0, c0, hb, hg, hr0⟩ := h
 exact ⟨A0, c0, blk_kept hb hk hne, hg, hr0⟩
theorem IsS93.below {w0 W : World} {g : Nat} {f0 : List Int} {f1 : Int} {f2 : Int} {f3 : Int} {W1 : World} (h : IsS93 w0 W g f0 f1 f2 f3) (hw : Below W.heap.size W W1) : IsS93 w0 W1 g f0 f1 f2 f3 := h.grown (grown_of_below hw none) (by simp)
theorem IsS93.alloc {w0 W : World} {g : Nat} {f0 : List Int} {f1 : Int} {f2 : Int} {f3 : Int} (h : IsS93 w0 W g f0 f1 f2 f3) (o : Obj) : IsS93 w0 (W.alloc o) g f0 f1 f2 f3 := h.below (zf (Below.refl _ _) o)
theorem IsS93.drewN {w0 W : World} {g : Nat} {f0 : List Int} {f1 : Int} {f2 : Int} {f3 : Int} (h : IsS93 w0 W g f0 f1 f2 f3) (m : Nat) : IsS93 w0 (W.drewN m) g f0 f1 f2 f3 := h
theorem IsS93.drew {w0 W : World} {g : Nat} {f0 : List Int} {f1 : Int} {f2 : Int} {f3 : Int} (h : IsS93 w0 W g f0 f1 f2 f3) : IsS93 w0 W.drew g f0 f1 f2 f3 := h
theorem IsS93.at_ {w0 W : World} {g : Nat} {f0 : List Int} {f1 : Int} {f2 : Int} {f3 : Int} {w' : World} {m : Nat} (hq : W.drewN m = w') (h : IsS93 w0 W g f0 f1 f2 f3) : IsS93 w0 w' g f0 f1 f2 f3 := by subst hq; exact IsS93.drewN h m
theorem IsS93.apart {w0 W : World} {g : Nat} {f0 : List Int} {f1 : Int} {f2 : Int} {f3 : Int} {α : Type} {d : Kd α} {e : Nat} {base : Nat} {ok : Nat → Prop} {v : Value} {xs : List α} (h : IsS93 w0 W g f0 f1 f2 f3) (ho : d.R e W base ok v xs) (ht : ∀ q, q ∈ e :: d.E → q ≠ 93) : d.R e W base (fun k => ok k ∧ k ≠ g) v xs := by
 obtain ⟨A0, c0, hb, hg, hr0⟩ := h
 exact Kd.R_types ho hb ht
theorem IsS93.own_ne {w0 W : World} {g : Nat} {f0 : List Int} {f1 : Int} {f2 : Int} {f3 : Int} {α : Type} {d : Kd α} {e : Nat} {base : Nat} {ok : Nat → Prop} {v : Value} {xs : List α} (h : IsS93 w0 W g f0 f1 f2 f3) (ho : d.R e W base ok v xs) (ht : e ≠ 93) : some g ≠ v.ownBlock := by
 obtain ⟨A0, c0, hb, hg, hr0⟩ := h
 exact Kd.R_ne ho hb ht
theorem IsS93.apartS {w0 W : World} {g : Nat} {f0 : List Int} {f1 : Int} {f2 : Int} {f3 : Int} {α : Type} {d : Kd α} {e : Nat} {base : Nat} {ok : Nat → Prop} {v : Value} {xs : List α} (h : IsS93 w0 W g f0 f1 f2 f3) (ho : d.S e W base ok v xs) (ht : ∀ q, q ∈ e :: d.E → q ≠ 93) : d.S e W base (fun k => ok k ∧ k ≠ g) v xs := by
 obtain ⟨A0, c0, hb, hg, hr0⟩ := h
 exact Kd.S_types ho hb ht
theorem IsS93.own_neS {w0 W : World} {g : Nat} {f0 : List Int} {f1 : Int} {f2 : Int} {f3 : Int} {α : Type} {d : Kd α} {e : Nat} {base : Nat} {ok : Nat → Prop} {v : Value} {xs : List α} (h : IsS93 w0 W g f0 f1 f2 f3) (ho : d.S e W base ok v xs) (ht : e ≠ 93) : some g ≠ v.ownBlock := by
 obtain ⟨A0, c0, hb, hg, hr0⟩ := h
 exact Kd.S_ne ho hb ht
theorem IsS93.lt {w0 W : World} {g : Nat} {f0 : List Int} {f1 : Int} {f2 : Int} {f3 : Int} (h : IsS93 w0 W g f0 f1 f2 f3) : g < W.heap.size := by
 obtain ⟨A0, c0, hb, hg, hr0⟩ := h
 exact zr hb
theorem IsS93.ne_blk {w0 W : World} {g : Nat} {f0 : List Int} {f1 : Int} {f2 : Int} {f3 : Int} {a : Nat} {cs : Array Value} {t : TypeId} {fr : Nat × Nat} (h : IsS93 w0 W g f0 f1 f2 f3) (hb2 : W.heap[a]? = some (.cells cs t fr)) (ht : t ≠ 93) : g ≠ a := by
 obtain ⟨A0, c0, hb, hg, hr0⟩ := h
 rintro rfl
 rw [hb] at hb2
 injection hb2 with hb2
 injection hb2 with _ ht2
 exact ht ht2.symm
theorem IsS93.far {w0 W : World} {g : Nat} {f0 : List Int} {f1 : Int} {f2 : Int} {f3 : Int} {p : Addr} (h : IsS93 w0 W g f0 f1 f2 f3) (hne : g ≠ p.block) (u : Value) : IsS93 w0 (W.setCell p u) g f0 f1 f2 f3 := by
 obtain ⟨A0, c0, hb, hg, hr0⟩ := h
 exact ⟨A0, c0, zE hb hne u, hg, hr0⟩
theorem cellS93_0 {W : World} {g : Nat} {A0 : Option Addr} {c0 : Nat} {f0 : List Int} {f1 : Int} {f2 : Int} {f3 : Int} (h : W.heap[g]? = some (.cells #[.slice A0 f0.length c0, .int .i64 f1, .int .i64 f2, .int .i64 f3] 93 (0, 0))) : W.cell? ⟨g, 0, none⟩ = some (.slice A0 f0.length c0) := (zb h 0).trans rfl
theorem cellS93_1 {W : World} {g : Nat} {A0 : Option Addr} {c0 : Nat} {f0 : List Int} {f1 : Int} {f2 : Int} {f3 : Int} (h : W.heap[g]? = some (.cells #[.slice A0 f0.length c0, .int .i64 f1, .int .i64 f2, .int .i64 f3] 93 (0, 0))) : W.cell? ⟨g, 1, none⟩ = some (.int .i64 f1) := (zb h 1).trans rfl
theorem IsS93.set_1 {w0 W : World} {g : Nat} {f0 : List Int} {f1 : Int} {f2 : Int} {f3 : Int} (h : IsS93 w0 W g f0 f1 f2 f3) (x : Int) : IsS93 w0 (W.setCell ⟨g, 1, none⟩ (.int .i64 x)) g f0 x f2 f3 := by
 obtain ⟨A0, c0, hb, hg, hr0⟩ := h
 exact ⟨A0, c0, by simpa using blk_set hb 1 (.int .i64 x), hg, hr0⟩
theorem cellS93_2 {W : World} {g : Nat} {A0 : Option Addr} {c0 : Nat} {f0 : List Int} {f1 : Int} {f2 : Int} {f3 : Int} (h : W.heap[g]? = some (.cells #[.slice A0 f0.length c0, .int .i64 f1, .int .i64 f2, .int .i64 f3] 93 (0, 0))) : W.cell? ⟨g, 2, none⟩ = some (.int .i64 f2) := (zb h 2).trans rfl
theorem IsS93.set_2 {w0 W : World} {g : Nat} {f0 : List Int} {f1 : Int} {f2 : Int} {f3 : Int} (h : IsS93 w0 W g f0 f1 f2 f3) (x : Int) : IsS93 w0 (W.setCell ⟨g, 2, none⟩ (.int .i64 x)) g f0 f1 x f3 := by
 obtain ⟨A0, c0, hb, hg, hr0⟩ := h
 exact ⟨A0, c0, by simpa using blk_set hb 2 (.int .i64 x), hg, hr0⟩
theorem cellS93_3 {W : World} {g : Nat} {A0 : Option Addr} {c0 : Nat} {f0 : List Int} {f1 : Int} {f2 : Int} {f3 : Int} (h : W.heap[g]? = some (.cells #[.slice A0 f0.length c0, .int .i64 f1, .int .i64 f2, .int .i64 f3] 93 (0, 0))) : W.cell? ⟨g, 3, none⟩ = some (.int .i64 f3) := (zb h 3).trans rfl
theorem IsS93.set_3 {w0 W : World} {g : Nat} {f0 : List Int} {f1 : Int} {f2 : Int} {f3 : Int} (h : IsS93 w0 W g f0 f1 f2 f3) (x : Int) : IsS93 w0 (W.setCell ⟨g, 3, none⟩ (.int .i64 x)) g f0 f1 f2 x := by
 obtain ⟨A0, c0, hb, hg, hr0⟩ := h
 exact ⟨A0, c0, by simpa using blk_set hb 3 (.int .i64 x), hg, hr0⟩
def IsX93 (B : Nat) (w0 W : World) (g : Nat) (f0 : List Int) (f1 : Int) (f2 : Int) (f3 : Int) : Prop := ∃ wc : World, IsS93 wc W g f0 f1 f2 f3 ∧ BelX g wc W ∧ w0.heap.size ≤ g ∧ w0.heap.size ≤ wc.heap.size ∧ wc.heap.size ≤ B ∧ B ≤ W.heap.size
theorem IsS93.l {w0 W : World} {g : Nat} {f0 : List Int} {f1 : Int} {f2 : Int} {f3 : Int} {W1 : World} [i : Ltr W W1] (h : IsS93 w0 W g f0 f1 f2 f3) : IsS93 w0 W1 g f0 f1 f2 f3 := h.below i.h
theorem IsX93.below {B : Nat} {w0 W : World} {g : Nat} {f0 : List Int} {f1 : Int} {f2 : Int} {f3 : Int} {W1 : World} (h : IsX93 B w0 W g f0 f1 f2 f3) (hw : Below W.heap.size W W1) : IsX93 B w0 W1 g f0 f1 f2 f3 := by
 obtain ⟨wc, h1, h2, h3, h4, h5, h6⟩ := h
 exact ⟨wc, h1.below hw, belx_step h2 hw, h3, h4, h5, Nat.le_trans h6 hw.size⟩
theorem IsX93.l {B : Nat} {w0 W : World} {g : Nat} {f0 : List Int} {f1 : Int} {f2 : Int} {f3 : Int} {W1 : World} [i : Ltr W W1] (h : IsX93 B w0 W g f0 f1 f2 f3) : IsX93 B w0 W1 g f0 f1 f2 f3 := h.below i.h
theorem IsX93.alloc {B : Nat} {w0 W : World} {g : Nat} {f0 : List Int} {f1 : Int} {f2 : Int} {f3 : Int} (h : IsX93 B w0 W g f0 f1 f2 f3) (o : Obj) : IsX93 B w0 (W.alloc o) g f0 f1 f2 f3 := h.below (zf (Below.refl _ _) o)
theorem IsX93.drewN {B : Nat} {w0 W : World} {g : Nat} {f0 : List Int} {f1 : Int} {f2 : Int} {f3 : Int} (h : IsX93 B w0 W g f0 f1 f2 f3) (m : Nat) : IsX93 B w0 (W.drewN m) g f0 f1 f2 f3 := h.below (ze (Below.refl _ _) m)
theorem IsX93.drew {B : Nat} {w0 W : World} {g : Nat} {f0 : List Int} {f1 : Int} {f2 : Int} {f3 : Int} (h : IsX93 B w0 W g f0 f1 f2 f3) : IsX93 B w0 W.drew g f0 f1 f2 f3 := h.below (zi (Below.refl _ _))
theorem IsX93.at_ {B : Nat} {w0 W : World} {g : Nat} {f0 : List Int} {f1 : Int} {f2 : Int} {f3 : Int} {w' : World} {m : Nat} (hq : W.drewN m = w') (h : IsX93 B w0 W g f0 f1 f2 f3) : IsX93 B w0 w' g f0 f1 f2 f3 := by subst hq; exact IsX93.drewN h m
theorem IsX93.lt {B : Nat} {w0 W : World} {g : Nat} {f0 : List Int} {f1 : Int} {f2 : Int} {f3 : Int} (h : IsX93 B w0 W g f0 f1 f2 f3) : g < W.heap.size := by
 obtain ⟨wc, h1, _⟩ := h
 exact h1.lt
theorem IsX93.bd {B : Nat} {w0 W : World} {g : Nat} {f0 : List Int} {f1 : Int} {f2 : Int} {f3 : Int} (h : IsX93 B w0 W g f0 f1 f2 f3) : B ≤ W.heap.size := by
 obtain ⟨wc, _, _, _, _, _, h6⟩ := h
 exact h6
theorem IsX93.ge {B : Nat} {w0 W : World} {g : Nat} {f0 : List Int} {f1 : Int} {f2 : Int} {f3 : Int} (h : IsX93 B w0 W g f0 f1 f2 f3) : w0.heap.size ≤ g := by
 obtain ⟨wc, _, _, h3, _⟩ := h
 exact h3
theorem IsX93.far {B : Nat} {w0 W : World} {g : Nat} {f0 : List Int} {f1 : Int} {f2 : Int} {f3 : Int} {p : Addr} (h : IsX93 B w0 W g f0 f1 f2 f3) (hne : g ≠ p.block ∧ B ≤ p.block) (u : Value) : IsX93 B w0 (W.setCell p u) g f0 f1 f2 f3 := by
 obtain ⟨wc, h1, h2, h3, h4, h5, h6⟩ := h
 exact ⟨wc, h1.far hne.1 u, belx_setA h2 (Nat.le_trans h5 hne.2), h3, h4, h5, by simpa [World.setCell] using h6⟩
theorem IsX93.ne_blk {B : Nat} {w0 W : World} {g : Nat} {f0 : List Int} {f1 : Int} {f2 : Int} {f3 : Int} {a : Nat} {cs : Array Value} {t : TypeId} {fr : Nat × Nat} (h : IsX93 B w0 W g f0 f1 f2 f3) (hb2 : W.heap[a]? = some (.cells cs t fr)) (ht : t ≠ 93) : g ≠ a := by
 obtain ⟨wc, h1, _⟩ := h
 exact h1.ne_blk hb2 ht
theorem IsX93.own_ne {B : Nat} {w0 W : World} {g : Nat} {f0 : List Int} {f1 : Int} {f2 : Int} {f3 : Int} {α : Type} {d : Kd α} {e : Nat} {base : Nat} {ok : Nat → Prop} {v : Value} {xs : List α} (h : IsX93 B w0 W g f0 f1 f2 f3) (ho : d.R e W base ok v xs) (ht : e ≠ 93) : some g ≠ v.ownBlock := by
 obtain ⟨wc, h1, _⟩ := h
 exact h1.own_ne ho ht
theorem IsX93.apart {B : Nat} {w0 W : World} {g : Nat} {f0 : List Int} {f1 : Int} {f2 : Int} {f3 : Int} {α : Type} {d : Kd α} {e : Nat} {base : Nat} {ok : Nat → Prop} {v : Value} {xs : List α} (h : IsX93 B w0 W g f0 f1 f2 f3) (ho : d.R e W base ok v xs) (ht : ∀ q, q ∈ e :: d.E → q ≠ 93) : d.R e W base (fun k => ok k ∧ k ≠ g) v xs := by
 obtain ⟨wc, h1, _⟩ := h
 exact h1.apart ho ht
theorem IsX93.own_neS {B : Nat} {w0 W : World} {g : Nat} {f0 : List Int} {f1 : Int} {f2 : Int} {f3 : Int} {α : Type} {d : Kd α} {e : Nat} {base : Nat} {ok : Nat → Prop} {v : Value} {xs : List α} (h : IsX93 B w0 W g f0 f1 f2 f3) (ho : Kd.S d e W base ok v xs) (ht : e ≠ 93) : some g ≠ v.ownBlock := by
 obtain ⟨wc, h1, _⟩ := h
 exact h1.own_neS ho ht
theorem IsX93.apartS {B : Nat} {w0 W : World} {g : Nat} {f0 : List Int} {f1 : Int} {f2 : Int} {f3 : Int} {α : Type} {d : Kd α} {e : Nat} {base : Nat} {ok : Nat → Prop} {v : Value} {xs : List α} (h : IsX93 B w0 W g f0 f1 f2 f3) (ho : Kd.S d e W base ok v xs) (ht : ∀ q, q ∈ e :: d.E → q ≠ 93) : Kd.S d e W base (fun k => ok k ∧ k ≠ g) v xs := by
 obtain ⟨wc, h1, _⟩ := h
 exact h1.apartS ho ht
theorem src_end {w0 w W : World} {g : Nat} {v : Value} {l : List Int} {a b c : Int} (hB0 : Below w0.heap.size w0 w) (hB : Below w.heap.size w W) (hg : w.heap.size ≤ g) (hb : W.heap[g]? = some (.cells #[v, .int .i64 a, .int .i64 b, .int .i64 c] 93 (0, 0))) (hr : Kd.R (Kd.int .u8) 5 W w.heap.size (fun _ => True) v l) :
  ∃ g_ : Nat, Ending.returned (.pointer (some ⟨g, 0, none⟩)) = .returned (.pointer (some ⟨g_, 0, none⟩)) ∧ IsX93 W.heap.size w0 W g_ l a b c ∧ Below w0.heap.size w0 W ∧ Below w.heap.size w W := by
 have hne := Kd.R_ne hr hb (by decide)
 obtain ⟨A, c_, rfl⟩ := Kd.R_slice hr
 have hrd := Kd.R_reads' hr
 refine ⟨g, rfl, ⟨W, ⟨A, c_, hb, ⟨zr hb, fun ad e_ h0 e2_ => ?_⟩, hrd.2.2⟩, BelX.refl _ _, Nat.le_trans hB0.size hg, Nat.le_trans hB0.size hB.size, Nat.le_refl _, Nat.le_refl _⟩, zk hB0 hB, hB⟩
 subst e_
 exact hne (by rw [← e2_]; rfl)
mutual
def spec_l1Source.j1 : Nat → List Int → List Int → Int → Int → Int → Option (List Int × Int × Int × Int)
 | 0, _, _, _, _, _ => none
 | k + 1, x0, x102000, x102001, x102002, x102003 => spec_l1Source.l1 k 0 x102000 x102001 (((x0.length : Int) % 1000) + 53) x102003
def spec_l1Source.l1 : Nat → Int → List Int → Int → Int → Int → Option (List Int × Int × Int × Int)
 | 0, _, _, _, _, _ => none
 | k + 1, x5, x102000, x102001, x102002, x102003 => if x5 < (x102000.length : Int) then (if 0 ≤ x5 then (spec_l1Source.l1 k (wrap64 (x5 + 1)) x102000 x102001 (Int.tmod (wrap64 ((wrap64 ((wrap64 (x102002 * 257)) + (wrap64 (rd x102000 x5)))) + 1)) 1000003) x102003) else (none)) else (if (wrap64 (1 + (wrap64 ((x102000.length : Int) / 50)))) > 7 then (some (x102000, x102001, x102002, 7)) else (some (x102000, x102001, x102002, wrap64 (1 + (wrap64 ((x102000.length : Int) / 50))))))
def spec_l1Source.l0 : Nat → List Int → Int → List Int → Int → Int → Int → Option (List Int × Int × Int × Int)
 | 0, _, _, _, _, _, _ => none
 | k + 1, x0, x4, x102000, x102001, x102002, x102003 => if x4 < (x0.length : Int) then (if x4 < 4000 then (if 0 ≤ x4 then (if x102000.length < 140737488355328 then (spec_l1Source.l0 k x0 (wrap64 (x4 + 1)) (x102000 ++ [rd x0 x4]) x102001 x102002 x102003) else (none)) else (none)) else (spec_l1Source.j1 k x0 x102000 x102001 x102002 x102003)) else (spec_l1Source.j1 k x0 x102000 x102001 x102002 x102003)
end
def spec_l1Source.f (k : Nat) (l0 : List Int) : Option (List Int × Int × Int × Int) := spec_l1Source.l0 k l0 0 ([] : List Int) 0 0 0
theorem spec_l1Source.mono_l : ∀ k, (∀ y0 y1 y2 y3 y4, LeO (spec_l1Source.j1 k y0 y1 y2 y3 y4) (spec_l1Source.j1 (k + 1) y0 y1 y2 y3 y4)) ∧ (∀ y0 y1 y2 y3 y4, LeO (spec_l1Source.l1 k y0 y1 y2 y3 y4) (spec_l1Source.l1 (k + 1) y0 y1 y2 y3 y4)) ∧ (∀ y0 y1 y2 y3 y4 y5, LeO (spec_l1Source.l0 k y0 y1 y2 y3 y4 y5) (spec_l1Source.l0 (k + 1) y0 y1 y2 y3 y4 y5))
 | 0 => ⟨fun _ _ _ _ _ r h => by simp [spec_l1Source.j1] at h, fun _ _ _ _ _ r h => by simp [spec_l1Source.l1] at h, fun _ _ _ _ _ _ r h => by simp [spec_l1Source.l0] at h⟩
 | k + 1 => by
  obtain ⟨ih0, ih1, ih2⟩ := spec_l1Source.mono_l k
  refine ⟨?_, ?_, ?_⟩
  ·intro y0 y1 y2 y3 y4
   unfold spec_l1Source.j1
   repeat' first
   | (with_reducible exact ih0 _ _ _ _ _)
   | (with_reducible exact ih1 _ _ _ _ _)
   | (with_reducible exact ih2 _ _ _ _ _ _)
   | (with_reducible exact LeO.refl _)
   | (with_reducible exact LeO.none _)
   | (with_reducible refine LeO.ite ?_ ?_)
   | (with_reducible refine LeO.bind ?_ (fun _ => ?_))
   | exact ih0 _ _ _ _ _
   | exact ih1 _ _ _ _ _
   | exact ih2 _ _ _ _ _ _
   | exact LeO.none _
   | refine LeO.ite ?_ ?_
   | refine LeO.bind ?_ (fun _ => ?_)
  ·intro y0 y1 y2 y3 y4
   unfold spec_l1Source.l1
   repeat' first
   | (with_reducible exact ih0 _ _ _ _ _)
   | (with_reducible exact ih1 _ _ _ _ _)
   | (with_reducible exact ih2 _ _ _ _ _ _)
   | (with_reducible exact LeO.refl _)
   | (with_reducible exact LeO.none _)
   | (with_reducible refine LeO.ite ?_ ?_)
   | (with_reducible refine LeO.bind ?_ (fun _ => ?_))
   | exact ih0 _ _ _ _ _
   | exact ih1 _ _ _ _ _
   | exact ih2 _ _ _ _ _ _
   | exact LeO.none _
   | refine LeO.ite ?_ ?_
   | refine LeO.bind ?_ (fun _ => ?_)
  ·intro y0 y1 y2 y3 y4 y5
   unfold spec_l1Source.l0
   repeat' first
   | (with_reducible exact ih0 _ _ _ _ _)
   | (with_reducible exact ih1 _ _ _ _ _)
   | (with_reducible exact ih2 _ _ _ _ _ _)
   | (with_reducible exact LeO.refl _)
   | (with_reducible exact LeO.none _)
   | (with_reducible refine LeO.ite ?_ ?_)
   | (with_reducible refine LeO.bind ?_ (fun _ => ?_))
   | exact ih0 _ _ _ _ _
   | exact ih1 _ _ _ _ _
   | exact ih2 _ _ _ _ _ _
   | exact LeO.none _
   | refine LeO.ite ?_ ?_
   | refine LeO.bind ?_ (fun _ => ?_)
theorem spec_l1Source.mono : ∀ a0 k, LeO (spec_l1Source.f k a0) (spec_l1Source.f (k + 1) a0) := by
 intro a0 k
 obtain ⟨ih0, ih1, ih2⟩ := spec_l1Source.mono_l k
 unfold spec_l1Source.f
 repeat' first
   | (with_reducible exact ih0 _ _ _ _ _)
   | (with_reducible exact ih1 _ _ _ _ _)
   | (with_reducible exact ih2 _ _ _ _ _ _)
   | (with_reducible exact LeO.refl _)
   | (with_reducible exact LeO.none _)
   | (with_reducible refine LeO.ite ?_ ?_)
   | (with_reducible refine LeO.bind ?_ (fun _ => ?_))
   | exact ih0 _ _ _ _ _
   | exact ih1 _ _ _ _ _
   | exact ih2 _ _ _ _ _ _
   | exact LeO.none _
   | refine LeO.ite ?_ ?_
   | refine LeO.bind ?_ (fun _ => ?_)
def spec_l1Source.T5 : Bool × List (List Nat × List Nat) := (true, [([], []), ([0], [0]), ([], []), ([], []), ([2, 3], [2, 3]), ([4], [4]), ([5], [5]), ([1, 6], [1, 6]), ([0, 1, 2, 3, 4, 5, 6, 7], []), ([8, 7, 7, 0, 1, 2, 3, 4, 5, 6, 7], [7, 8])])
def spec_l1Source.B5 : List Nat := [0, 1, 0, 0, 12, 28, 60, 127, 255, 511]
theorem spec_l1Source.tab5 : rtab .any (opsOf Try.f34 5) = spec_l1Source.T5 := by kernel_rfl
theorem spec_l1Source.bits5 : waitsOk spec_l1Source.T5.2 spec_l1Source.B5 = true := by kernel_rfl
def spec_l1Source.T10 : Bool × List (List Nat × List Nat) := (true, [([], []), ([0], [0]), ([1], [1]), ([], []), ([3], [3]), ([], []), ([4, 5], [4, 5]), ([6], [6]), ([7], [7]), ([2, 8], [2, 8]), ([9], [9]), ([10], [10]), ([0, 1, 2, 3, 4, 5, 6, 7, 8, 9, 10, 11], []), ([12, 11, 0, 1, 2, 3, 4, 5, 6, 7, 8, 9, 10, 11], [11, 12])])
def spec_l1Source.B10 : List Nat := [0, 1, 3, 0, 8, 0, 56, 120, 248, 511, 1023, 2047, 4095, 8191]
theorem spec_l1Source.tab10 : rtab .any (opsOf Try.f34 10) = spec_l1Source.T10 := by kernel_rfl
theorem spec_l1Source.bits10 : waitsOk spec_l1Source.T10.2 spec_l1Source.B10 = true := by kernel_rfl
set_option maxHeartbeats 8000000 in
set_option maxRecDepth 100000 in
theorem spec_l1Source.calls (k : Nat) (A0 : Option Addr) (c0 : Nat) (l0 : List Int) (r1 : List Int) (r2 : Int) (r3 : Int) (r4 : Int) (w0 w : World) (hB : Below w0.heap.size w0 w) (hr0 : Kd.C (Kd.int .u8) w0 A0 l0.length l0) (hc0 : l0.length ≤ c0) (h : spec_l1Source.f k l0 = some (r1, r2, r3, r4)) :
  Calls Try.prog 34 #[.slice A0 l0.length c0] w fun e w' => ∃ g_ : Nat, e = .returned (.pointer (some ⟨g_, 0, none⟩)) ∧ IsX93 w'.heap.size w0 w' g_ r1 r2 r3 r4 ∧ Below w0.heap.size w0 w' ∧ Below w.heap.size w w' := by
 have huS_ := Try.underlying93
 have HR0 := Aside0.mk (Kd.C_below hr0 hB)
 have HB0 := Aside0.mk hB
 clear hB
 have HC0 := Aside0.mk hc0
 clear hr0 hc0
 have HB := Aside0.mk (Below.refl w.heap.size w)
 have H : (spec_l1Source.l0 k l0 0 ([] : List Int) 0 0 0) = some (r1, r2, r3, r4) := h
 clear h
 have HC2 := Aside0.mk H
 clear H
 go_enter Try.func34, Try.ntmps34
 go_upto_block 0 with (first | ((with_reducible refine zt (N := 3) rfl ?_); refine zF ?hg (N := 3) ?hd (cs := #[.slice none 0 0, .int .i64 0, .int .i64 0, .int .i64 0]) (t := 93) ?hr ?_; (case hd => rfl); (case hg => rfl); (case hr => first | (go_simp; done) | (go_simp; rfl)); intro zI hg w3 hbox hb; have n0_ := Aside0.mk (zk (by repeat (first | (with_reducible first | exact HB.out | apply zf | apply ze | apply zi) | exact HB.out)) hb); have n1_ := Aside0.mk (hbox); have n2_ := Aside0.mk ((by rw [hg]; exact (zm (by repeat (first | (with_reducible first | exact HB.out | apply zf | apply ze | apply zi) | exact HB.out))) : w.heap.size ≤ zI)); have n3_ := Aside0.mk ((by rw [hg]; exact (zm (by repeat (first | (with_reducible first | exact HB.out | apply zf | apply ze | apply zi) | exact HB.out))) : w.heap.size ≤ zI)); clear HB; have HB := n0_; have zG := n1_; have GW101 := n2_; have zJ := n3_; clear n0_ n1_ n2_ n3_; clear hb hbox hg; have zK : w3.cell? ⟨zI, 0, none⟩ = some (.slice none 0 0) := (zb zG.out 0).trans rfl; have zL : w3.cell? ⟨zI, 1, none⟩ = some (.int .i64 0) := (zb zG.out 1).trans rfl; have zM : w3.cell? ⟨zI, 2, none⟩ = some (.int .i64 0) := (zb zG.out 2).trans rfl; have zN : w3.cell? ⟨zI, 3, none⟩ = some (.int .i64 0) := (zb zG.out 3).trans rfl; have zO := zd zG.out 0; have zP := zd zG.out 1; have zQ := zd zG.out 2; have zR := zd zG.out 3))
 (try simp only [Act.put, List.setIfInBounds_toArray, List.set_cons_zero, List.set_cons_succ])
 go_cut [] (fun wc => ∃ (kq : Nat) (x102000_1 : List Int) (u102000 : Value), Aside0 (spec_l1Source.j1 kq l0 x102000_1 0 0 0 = some (r1, r2, r3, r4)) ∧ Aside0 (kq ≤ k) ∧ Aside0 (Kd.R (Kd.int .u8) 5 wc w.heap.size (fun _ => True) u102000 x102000_1) ∧ Aside0 (wc.heap[zI]? = some (.cells #[u102000, .int .i64 0, .int .i64 0, .int .i64 0] 93 (0, 0))) ∧ Aside0 (Below w.heap.size w wc))
 case first =>
  have H := HC2.out
  clear HC2
  have H' := Aside0.mk H
  clear H
  go_wp2
  go_loopg [4] k (fun kq v4 w' => ∃ (x4_1 : Int) (x102000_1 : List Int) (u102000 : Value), v4 = .int .i64 x4_1 ∧ Aside0 (spec_l1Source.l0 kq l0 x4_1 x102000_1 0 0 0 = some (r1, r2, r3, r4)) ∧ Aside0 (kq ≤ k) ∧ Aside0 (Kd.R (Kd.int .u8) 5 w' w.heap.size (fun _ => True) u102000 x102000_1) ∧ Aside0 (w'.heap[zI]? = some (.cells #[u102000, .int .i64 0, .int .i64 0, .int .i64 0] 93 (0, 0))) ∧ Aside0 (Below w.heap.size w w'))
  case atStart => exact ⟨(0), (([] : List Int)), (.slice none 0 0), (by first | rfl | (simp; done) | (simp [*]; done)), H', ⟨Nat.le_refl _⟩, ⟨by first | exact Kd.R_nil _ _ _ _ _ | exact Kd.N_nil _ _ _ _ _ | exact Kd.V_nil _ _ _ _ _ | exact Kd.Q_nil _ _ _ _ _ | exact Kd.S_nil _ _ _ _ _⟩, ⟨by (with_reducible repeat (first | refine zj ?_ _ | refine zg ?_ | refine zh ?_ _)); refine zz (cs := #[.slice none 0 0, .int .i64 0, .int .i64 0, .int .i64 0]) ?_ 3 _ rfl; (with_reducible repeat (first | refine zj ?_ _ | refine zg ?_ | refine zh ?_ _)); refine zz (cs := #[.slice none 0 0, .int .i64 0, .int .i64 0, .int .i64 0]) ?_ 2 _ rfl; (with_reducible repeat (first | refine zj ?_ _ | refine zg ?_ | refine zh ?_ _)); refine zz (cs := #[.slice none 0 0, .int .i64 0, .int .i64 0, .int .i64 0]) ?_ 1 _ rfl; (with_reducible repeat (first | refine zj ?_ _ | refine zg ?_ | refine zh ?_ _)); refine zz (cs := #[.slice none 0 0, .int .i64 0, .int .i64 0, .int .i64 0]) ?_ 0 _ rfl; (with_reducible repeat (first | refine zj ?_ _ | refine zg ?_ | refine zh ?_ _)); exact zG.out⟩, ⟨by repeat (first | (with_reducible first | exact HB.out | apply zf | apply ze | apply zi | refine zc ?_ zJ.out) | exact HB.out)⟩⟩
  case round =>
   clear H'
   try clear p2
   try clear c3
   try clear zK
   try clear zL
   try clear zM
   try clear zN
   try clear zO
   try clear zP
   try clear zQ
   try clear zR
   obtain ⟨x4_1, x102000_1, u102000, rfl, HA, HK1, zH, zG, HB⟩ := hrel
   cases gk with
   | zero => exact absurd HA.out (by simp [spec_l1Source.l0])
   | succ k1 =>
    have H := HA.out
    clear HA
    simp only [spec_l1Source.l0] at H
    by_cases c5 : x4_1 < (l0.length : Int)
    ·rw [if_pos c5] at H
     have c5b0 : decide (x4_1 < (l0.length : Int)) = true := decide_eq_true c5
     clear c5
     (first | rw [c5b0] | (simp only [zp, zq]; rw [c5b0]) | skip)
     by_cases c6 : x4_1 < 4000
     ·rw [if_pos c6] at H
      have c6b0 : decide (x4_1 < 4000) = true := decide_eq_true c6
      clear c6
      by_cases c7 : 0 ≤ x4_1
      ·rw [if_pos c7] at H
       have c7b0 : decide (0 ≤ x4_1) = true := decide_eq_true c7
       clear c7
       by_cases c8 : x102000_1.length < 140737488355328
       ·rw [if_pos c8] at H
        have LMc8 := Aside0.mk c8
        clear c8
        obtain ⟨y103, hy103⟩ : ∃ y_ : List Int, y_ = (x102000_1 ++ [rd l0 x4_1]) := ⟨_, rfl⟩
        replace H : (spec_l1Source.l0 k1 l0 (wrap64 (x4_1 + 1)) y103 0 0 0) = some (r1, r2, r3, r4) := by first | (rw [hy103]; with_reducible exact H) | (have H2_ := (Option.bind_some _ _).symm.trans H; rw [hy103]; with_reducible exact H2_) | (have H2_ := (Option.bind_some _ _).symm.trans H; with_reducible exact H2_) | with_reducible exact H | (rw [hy103]; exact H) | exact H
        have Ny103 := Aside0.mk hy103
        clear hy103
        have H' := Aside0.mk H
        clear H
        try go_wp2
        have n0_ := Aside0.mk (Kd.R_drew zH.out)
        have n1_ := Aside0.mk (zg zG.out)
        have n2_ := Aside0.mk (zi HB.out)
        clear zH
        clear zG
        clear HB
        have zH := n0_
        have zG := n1_
        have HB := n2_
        clear n0_ n1_ n2_
        have p102 : 0 ≤ (x4_1 : Int) := of_decide_eq_true (by first | (with_reducible assumption) | assumption)
        have q102 : x4_1 < (l0.length : Int) := of_decide_eq_true (by first | (with_reducible assumption) | assumption)
        obtain ⟨ad102, e102, hx102_0⟩ := Kd.at_int HR0.out x4_1 p102 q102
        have hw102_0 := hx102_0
        cases e102
        replace hx102_0 := zn HB.out hx102_0
        replace p102 := eq_true p102
        replace q102 := eq_true q102
        refine start_ (n := 10) (S := fun w' => w'.cell? ⟨zI, 0, none⟩ = some (u102000) ∧ w'.cell? ⟨zI, 1, none⟩ = some (.int .i64 0) ∧ w'.cell? ⟨zI, 2, none⟩ = some (.int .i64 0) ∧ w'.cell? ⟨zI, 3, none⟩ = some (.int .i64 0) ∧ w'.cell? (ad102.add (x4_1).toNat) = some (.int .u8 (rd l0 x4_1))) (ds := [9]) #[false, false, false, false, false, false, false, false, false, false] (by kernel_rfl) rfl rfl ⟨(zb zG.out 0).trans rfl, (zb zG.out 1).trans rfl, (zb zG.out 2).trans rfl, (zb zG.out 3).trans rfl, (zn HB.out hw102_0)⟩ (fun hHeld => ?_); refine with_tabW spec_l1Source.tab5 spec_l1Source.bits5 (fun HT_ HW_ => ?_)
        generalize wr.drew = w9 at zH zG HB hx102_0 hHeld ⊢
        refine zA (i := 0) (N := some 17) (v := ?_) (a' := ?_) #[true, false, false, false, false, false, false, false, false, false] rfl rfl (zB HT_.out (by kernel_rfl)) (fun _ _ _ h => h) (Or.inl ⟨by rfl, ?_⟩) ?_ ?_
        rotate_left
        ·intro w'
         go_simp
         with_reducible rfl
        rotate_left
        ·simp only [Act.put, List.setIfInBounds_toArray, List.set_cons_zero, List.set_cons_succ, zp, zq]
         rfl
        refine zA (i := 2) (N := some 19) (v := ?_) (a' := ?_) #[true, false, true, false, false, false, false, false, false, false] rfl rfl (zB HT_.out (by kernel_rfl)) (fun _ _ _ h => h) (Or.inl ⟨by rfl, ?_⟩) ?_ ?_
        rotate_left
        ·intro w'
         go_simp
         with_reducible rfl
        rotate_left
        ·simp only [Act.put, List.setIfInBounds_toArray, List.set_cons_zero, List.set_cons_succ, zp, zq]
         rfl
        refine zA (i := 3) (N := some 20) (v := ?_) (a' := ?_) #[true, false, true, true, false, false, false, false, false, false] rfl rfl (zB HT_.out (by kernel_rfl)) (fun _ _ _ h => h) (Or.inl ⟨by rfl, ?_⟩) ?_ ?_
        rotate_left
        ·intro w'
         go_simp
         with_reducible rfl
        rotate_left
        ·simp only [Act.put, List.setIfInBounds_toArray, List.set_cons_zero, List.set_cons_succ, zp, zq]
         rfl
        refine zA (i := 4) (N := some 21) (v := ?_) (a' := ?_) #[true, false, true, true, true, false, false, false, false, false] rfl rfl (zB HT_.out (by kernel_rfl)) (fun _ _ _ h => h) (Or.inl ⟨by rfl, ?_⟩) ?_ ?_
        rotate_left
        ·intro w'
         go_simp
         with_reducible rfl
        rotate_left
        ·simp only [Act.put, List.setIfInBounds_toArray, List.set_cons_zero, List.set_cons_succ, zp, zq]
         rfl
        refine take_ (i := 1) (N := some 18) (v := ?_) (a' := ?_) #[true, true, true, true, true, false, false, false, false, false] rfl rfl (take_ofW HT_.out HW_.out (by kernel_rfl)) (fun _ _ _ h => h) (Or.inl ⟨by rfl, ?_⟩) hHeld ?_ ?_
        rotate_left
        ·rintro w' ⟨s0, s1, s2, s3, s4⟩
         go_simp
         with_reducible rfl
        rotate_left
        ·simp only [Act.put, List.setIfInBounds_toArray, List.set_cons_zero, List.set_cons_succ, zp, zq]
         rfl
        refine take_ (i := 5) (N := some 22) (v := ?_) (a' := ?_) #[true, true, true, true, true, true, false, false, false, false] rfl rfl (take_ofW HT_.out HW_.out (by kernel_rfl)) (fun _ _ _ h => h) (Or.inl ⟨by rfl, ?_⟩) hHeld ?_ ?_
        rotate_left
        ·rintro w' ⟨s0, s1, s2, s3, s4⟩
         go_simp
         with_reducible rfl
        rotate_left
        ·simp only [Act.put, List.setIfInBounds_toArray, List.set_cons_zero, List.set_cons_succ, zp, zq]
         rfl
        refine one_ (i := 6) (N := some 23) #[true, true, true, true, true, true, true, false, false, false] rfl rfl (one_of HT_.out (by kernel_rfl)) (by decide) (fun K hK => ?_)
        refine value_ (w1 := ?_) (v := ?_) (by rfl) rfl ?_ ?_
        rotate_left 2
        ·go_simp
         constructor
         ·rfl
         ·rfl
        refine hK.out _ _ ⟨(zb (zh zG.out _) 0).trans rfl, (zb (zh zG.out _) 1).trans rfl, (zb (zh zG.out _) 2).trans rfl, (zb (zh zG.out _) 3).trans rfl, (World.cell?_alloc_lt _ _ _ (World.block_lt_of_cell? _ _ ((zn HB.out hw102_0)))).trans ((zn HB.out hw102_0))⟩ (fun hHeld => ?_)
        clear hK K
        refine norm_ (a' := ?_) ?_ ?_
        rotate_left
        ·show Act.put _ (some 23) _ = _
         simp only [Act.put, List.setIfInBounds_toArray, List.set_cons_zero, List.set_cons_succ, zp, zq]
         rfl
        refine one_ (i := 7) (N := some 24) #[true, true, true, true, true, true, true, true, false, false] rfl rfl (one_of HT_.out (by kernel_rfl)) (by decide) (fun K hK => ?_)
        refine Kd.R_append_step (Kd.int .u8) (w0 := w) w.heap.size (by rfl) (.tmp 18) (.tmp 23) 22 5 (.int .u8 0) 1 rfl Try.underlying22 info5 rfl (by decide) (by omega) u102000 x102000_1 (rd l0 x4_1) [.int .u8 (rd l0 x4_1)] (fun _ => True) (fun _ => False) rfl rfl ?aP (fun _ hk => hk.elim) ?aF ?aO ?aB ?aS ?aL ?_
        (case aP => exact rfl)
        (case aB => exact (by repeat (first | (with_reducible first | exact HB.out | apply zf | apply ze | apply zi | refine zc ?_ zJ.out) | exact HB.out)))
        (case aF => exact (fun _ _ => trivial))
        (case aO => exact (by (with_reducible repeat (first | apply Kd.R_alloc | apply Kd.R_drewN | apply Kd.R_drew)); exact zH.out))
        (case aS => exact (zm (by repeat (first | (with_reducible first | exact HB.out | apply zf | apply ze | apply zi | refine zc ?_ zJ.out) | exact HB.out))))
        (case aL => have := LMc8.out; omega)
        intro v104 w10 ho hb hg hat
        rw [← Ny103.out] at ho
        have n0_ := Aside0.mk (zD (g := zI) (o := .cells #[u102000, .int .i64 0, .int .i64 0, .int .i64 0] 93 (0, 0)) (by (with_reducible repeat (first | refine zj ?_ _ | refine zg ?_ | refine zh ?_ _)); exact zG.out) hg (Kd.R_ne zH.out zG.out (by decide)))
        have n1_ := Aside0.mk (hb)
        have n2_ := Aside0.mk (ho)
        clear zG
        clear HB
        clear zH
        have zG := n0_
        have HB := n1_
        have zS := n2_
        clear n0_ n1_ n2_
        clear ho hb hg hat
        obtain ⟨Ao11, co11, eo11⟩ := Kd.R_slice zS.out
        (first | subst eo11 | (injection eo11 with f1_ f2_ f3_; have f4_ := f1_.symm; have f5_ := f3_.symm; clear f1_ f2_ f3_; subst f4_; subst f5_))
        refine hK.out _ _ ⟨(zb zG.out 0).trans rfl, (zb zG.out 1).trans rfl, (zb zG.out 2).trans rfl, (zb zG.out 3).trans rfl, (zn HB.out hw102_0)⟩ (fun hHeld => ?_)
        clear hK K
        refine norm_ (a' := ?_) ?_ ?_
        rotate_left
        ·show Act.put _ (some 24) _ = _
         simp only [Act.put, List.setIfInBounds_toArray, List.set_cons_zero, List.set_cons_succ, zp, zq]
         rfl
        refine zA (i := 8) (N := some 25) (v := ?_) (a' := ?_) #[true, true, true, true, true, true, true, true, true, false] rfl rfl (zB HT_.out (by kernel_rfl)) (fun _ _ _ h => h) (Or.inl ⟨by rfl, ?_⟩) ?_ ?_
        rotate_left
        ·intro w'
         go_simp
         with_reducible rfl
        rotate_left
        ·simp only [Act.put, List.setIfInBounds_toArray, List.set_cons_zero, List.set_cons_succ, zp, zq]
         rfl
        refine last_ (i := 9) (N := none) #[true, true, true, true, true, true, true, true, true, true] rfl rfl (one_of HT_.out (by kernel_rfl)) (by decide) (fun K hK => ?_)
        have hs12 : w10.cell? ⟨zI, 0, none⟩ = some (u102000) := (zb zG.out 0).trans rfl
        have hfs12 := zd zG.out 0
        refine skip_ (w1 := ?_) (by rfl) rfl ?_ ?_
        rotate_left
        ·go_simp
         rfl
        refine hK.out _ _ ?_
        clear hK K
        refine done_ (done_of HT_.out (by kernel_rfl)) ?_
        try go_wp2
        go_roundg k1
        case measure => have := HK1.out; omega
        case rel => exact ⟨(wrap64 (x4_1 + 1)), (y103), (.slice Ao11 y103.length co11), (by first | rfl | (simp; done) | (simp [*]; done)), H', ⟨by have := HK1.out; omega⟩, ⟨by (with_reducible repeat (first | apply Kd.R_alloc | apply Kd.R_drewN | apply Kd.R_drew)); exact Kd.R_mono (Kd.R_far (p := ⟨zI, 0, none⟩) (Kd.R_types zS.out zG.out (by decide)) (fun _ hk => hk.2) (.slice Ao11 y103.length co11)) (fun _ hk => trivial)⟩, ⟨by (with_reducible repeat (first | refine zj ?_ _ | refine zg ?_ | refine zh ?_ _)); refine zz (cs := #[u102000, .int .i64 0, .int .i64 0, .int .i64 0]) ?_ 0 _ rfl; (with_reducible repeat (first | refine zj ?_ _ | refine zg ?_ | refine zh ?_ _)); exact zG.out⟩, ⟨by repeat (first | (with_reducible first | exact HB.out | apply zf | apply ze | apply zi | refine zc ?_ zJ.out) | exact HB.out)⟩⟩
       ·rw [if_neg c8] at H
        exact absurd H (by simp)
      ·rw [if_neg c7] at H
       exact absurd H (by simp)
     ·rw [if_neg c6] at H
      have c6b0 : decide (x4_1 < 4000) = false := decide_eq_false c6
      clear c6
      have H' := Aside0.mk H
      clear H
      go_wp2
      go_meet
      case rel => exact ⟨_, (x102000_1), (u102000), H', ⟨by have := HK1.out; first | omega | exact Nat.le_refl _⟩, ⟨by (with_reducible repeat (first | apply Kd.R_alloc | apply Kd.R_drewN | apply Kd.R_drew)); exact zH.out⟩, ⟨by (with_reducible repeat (first | refine zj ?_ _ | refine zg ?_ | refine zh ?_ _)); exact zG.out⟩, ⟨by repeat (first | (with_reducible first | exact HB.out | apply zf | apply ze | apply zi | refine zc ?_ zJ.out) | exact HB.out)⟩⟩
    ·rw [if_neg c5] at H
     have c5b0 : decide (x4_1 < (l0.length : Int)) = false := decide_eq_false c5
     clear c5
     (first | rw [c5b0] | (simp only [zp, zq]; rw [c5b0]) | skip)
     have H' := Aside0.mk H
     clear H
     go_wp2
     go_meet
     case rel => exact ⟨_, (x102000_1), (u102000), H', ⟨by have := HK1.out; first | omega | exact Nat.le_refl _⟩, ⟨by (with_reducible repeat (first | apply Kd.R_alloc | apply Kd.R_drewN | apply Kd.R_drew)); exact zH.out⟩, ⟨by (with_reducible repeat (first | refine zj ?_ _ | refine zg ?_ | refine zh ?_ _)); exact zG.out⟩, ⟨by repeat (first | (with_reducible first | exact HB.out | apply zf | apply ze | apply zi | refine zc ?_ zJ.out) | exact HB.out)⟩⟩
 case rest =>
  clear HC2
  try clear p1
  try clear q1
  try clear hx1
  try clear p2
  try clear c3
  try clear c5
  try clear c5b0
  try clear c6
  try clear c6b0
  try clear p6
  try clear c7
  try clear c7b0
  try clear c8
  try clear p10
  try clear q10
  try clear hx10
  try clear zK
  try clear zL
  try clear zM
  try clear zN
  try clear zO
  try clear zP
  try clear zQ
  try clear zR
  try clear hx102_0
  try clear p102
  try clear p2
  try clear q102
  obtain ⟨kq, x102000_1, u102000, HA, HJ1, zH, zG, HB⟩ := hcut
  cases kq with
  | zero => exact absurd HA.out (by simp [spec_l1Source.j1])
  | succ kj1 =>
   have H := HA.out
   clear HA
   simp only [spec_l1Source.j1] at H
   have H' := Aside0.mk H
   clear H
   have zT : wc.cell? ⟨zI, 0, none⟩ = some (u102000) := (zb zG.out 0).trans rfl
   have zU : wc.cell? ⟨zI, 1, none⟩ = some (.int .i64 0) := (zb zG.out 1).trans rfl
   have zV : wc.cell? ⟨zI, 2, none⟩ = some (.int .i64 0) := (zb zG.out 2).trans rfl
   have zW : wc.cell? ⟨zI, 3, none⟩ = some (.int .i64 0) := (zb zG.out 3).trans rfl
   have zX := zd zG.out 0
   have zY := zd zG.out 1
   have zZ := zd zG.out 2
   have zab := zd zG.out 3
   go_wp2
   go_loopg [5] kj1 (fun kq v5 w' => ∃ (x5_2 : Int) (x102002_2 : Int), v5 = .int .i64 x5_2 ∧ Aside0 (spec_l1Source.l1 kq x5_2 x102000_1 0 x102002_2 0 = some (r1, r2, r3, r4)) ∧ Aside0 (kq ≤ kj1) ∧ Aside0 (Kd.R (Kd.int .u8) 5 w' w.heap.size (fun _ => True) u102000 x102000_1) ∧ Aside0 (w'.heap[zI]? = some (.cells #[u102000, .int .i64 0, .int .i64 x102002_2, .int .i64 0] 93 (0, 0))) ∧ Aside0 (Below w.heap.size w w'))
   case atStart => exact ⟨(0), (((l0.length : Int) % 1000) + 53), (by first | rfl | (simp; done) | (simp [*]; done)), H', ⟨Nat.le_refl _⟩, ⟨by (with_reducible repeat (first | apply Kd.R_alloc | apply Kd.R_drewN | apply Kd.R_drew)); exact Kd.R_mono (Kd.R_far (p := ⟨zI, 2, none⟩) (Kd.R_types zH.out zG.out (by decide)) (fun _ hk => hk.2) (.int .i64 (((l0.length : Int) % 1000) + 53))) (fun _ hk => trivial)⟩, ⟨by (with_reducible repeat (first | refine zj ?_ _ | refine zg ?_ | refine zh ?_ _)); refine zz (cs := #[u102000, .int .i64 0, .int .i64 0, .int .i64 0]) ?_ 2 _ rfl; (with_reducible repeat (first | refine zj ?_ _ | refine zg ?_ | refine zh ?_ _)); exact zG.out⟩, ⟨by repeat (first | (with_reducible first | exact HB.out | apply zf | apply ze | apply zi | refine zc ?_ zJ.out) | exact HB.out)⟩⟩
   case round =>
    clear H'
    try clear p1
    try clear q1
    try clear hx1
    try clear p2
    try clear c3
    try clear c5
    try clear c5b0
    try clear c6
    try clear c6b0
    try clear p6
    try clear c7
    try clear c7b0
    try clear c8
    try clear p10
    try clear q10
    try clear hx10
    try clear zT
    try clear zU
    try clear zV
    try clear zW
    try clear zK
    try clear zL
    try clear zM
    try clear zN
    try clear zX
    try clear zY
    try clear zZ
    try clear zab
    try clear zO
    try clear zP
    try clear zQ
    try clear zR
    try clear hx102_0
    try clear p1
    try clear p10
    try clear p102
    try clear p2
    try clear p6
    try clear q1
    try clear q10
    try clear q102
    obtain ⟨x5_2, x102002_2, rfl, HA, HK2, zH, zG, HB⟩ := hrel
    cases gk with
    | zero => exact absurd HA.out (by simp [spec_l1Source.l1])
    | succ k2 =>
     have H := HA.out
     clear HA
     simp only [spec_l1Source.l1] at H
     by_cases c14 : x5_2 < (x102000_1.length : Int)
     ·rw [if_pos c14] at H
      have c14b0 : decide (x5_2 < (x102000_1.length : Int)) = true := decide_eq_true c14
      clear c14
      by_cases c15 : 0 ≤ x5_2
      ·rw [if_pos c15] at H
       have c15b0 : decide (0 ≤ x5_2) = true := decide_eq_true c15
       clear c15
       have H' := Aside0.mk H
       clear H
       have zbb : wr.cell? ⟨zI, 0, none⟩ = some (u102000) := (zb zG.out 0).trans rfl
       have zcb : wr.cell? ⟨zI, 1, none⟩ = some (.int .i64 0) := (zb zG.out 1).trans rfl
       have zdb : wr.cell? ⟨zI, 2, none⟩ = some (.int .i64 x102002_2) := (zb zG.out 2).trans rfl
       have zeb : wr.cell? ⟨zI, 3, none⟩ = some (.int .i64 0) := (zb zG.out 3).trans rfl
       have zfb := zd zG.out 0
       have zgb := zd zG.out 1
       have zhb := zd zG.out 2
       have zib := zd zG.out 3
       obtain ⟨Ao17, co17, eo17⟩ := Kd.R_slice zH.out
       subst eo17
       try go_wp2
       have n0_ := Aside0.mk (Kd.R_drew zH.out)
       have n1_ := Aside0.mk (zg zG.out)
       have n2_ := Aside0.mk (zi HB.out)
       clear zH
       clear zG
       clear HB
       have zH := n0_
       have zG := n1_
       have HB := n2_
       clear n0_ n1_ n2_
       have p106 : 0 ≤ (x5_2 : Int) := of_decide_eq_true (by first | (with_reducible assumption) | assumption)
       have q106 : x5_2 < (x102000_1.length : Int) := of_decide_eq_true (by first | (with_reducible assumption) | assumption)
       obtain ⟨ad106, e106, hx106_0⟩ := Kd.at_int (Kd.R_reads' zH.out).2.2 x5_2 p106 q106
       cases e106
       replace p106 := eq_true p106
       replace q106 := eq_true q106
       refine start_ (n := 14) (S := fun w' => w'.cell? ⟨zI, 0, none⟩ = some (.slice (some ad106) x102000_1.length co17) ∧ w'.cell? ⟨zI, 1, none⟩ = some (.int .i64 0) ∧ w'.cell? ⟨zI, 2, none⟩ = some (.int .i64 x102002_2) ∧ w'.cell? ⟨zI, 3, none⟩ = some (.int .i64 0) ∧ w'.cell? (ad106.add (x5_2).toNat) = some (.int .u8 (rd x102000_1 x5_2))) (ds := [13]) #[false, false, false, false, false, false, false, false, false, false, false, false, false, false] (by kernel_rfl) rfl rfl ⟨(zb zG.out 0).trans rfl, (zb zG.out 1).trans rfl, (zb zG.out 2).trans rfl, (zb zG.out 3).trans rfl, hx106_0⟩ (fun hHeld => ?_); refine with_tabW spec_l1Source.tab10 spec_l1Source.bits10 (fun HT_ HW_ => ?_)
       generalize wr.drew = w18 at zH zG HB hx106_0 hHeld ⊢
       refine zA (i := 0) (N := some 38) (v := ?_) (a' := ?_) #[true, false, false, false, false, false, false, false, false, false, false, false, false, false] rfl rfl (zB HT_.out (by kernel_rfl)) (fun _ _ _ h => h) (Or.inl ⟨by rfl, ?_⟩) ?_ ?_
       rotate_left
       ·intro w'
        go_simp
        with_reducible rfl
       rotate_left
       ·simp only [Act.put, List.setIfInBounds_toArray, List.set_cons_zero, List.set_cons_succ, zp, zq]
        rfl
       refine zA (i := 3) (N := some 41) (v := ?_) (a' := ?_) #[true, false, false, true, false, false, false, false, false, false, false, false, false, false] rfl rfl (zB HT_.out (by kernel_rfl)) (fun _ _ _ h => h) (Or.inl ⟨by rfl, ?_⟩) ?_ ?_
       rotate_left
       ·intro w'
        go_simp
        with_reducible rfl
       rotate_left
       ·simp only [Act.put, List.setIfInBounds_toArray, List.set_cons_zero, List.set_cons_succ, zp, zq]
        rfl
       refine zA (i := 5) (N := some 43) (v := ?_) (a' := ?_) #[true, false, false, true, false, true, false, false, false, false, false, false, false, false] rfl rfl (zB HT_.out (by kernel_rfl)) (fun _ _ _ h => h) (Or.inl ⟨by rfl, ?_⟩) ?_ ?_
       rotate_left
       ·intro w'
        go_simp
        with_reducible rfl
       rotate_left
       ·simp only [Act.put, List.setIfInBounds_toArray, List.set_cons_zero, List.set_cons_succ, zp, zq]
        rfl
       refine take_ (i := 1) (N := some 39) (v := ?_) (a' := ?_) #[true, true, false, true, false, true, false, false, false, false, false, false, false, false] rfl rfl (take_ofW HT_.out HW_.out (by kernel_rfl)) (fun _ _ _ h => h) (Or.inl ⟨by rfl, ?_⟩) hHeld ?_ ?_
       rotate_left
       ·rintro w' ⟨s0, s1, s2, s3, s4⟩
        go_simp
        with_reducible rfl
       rotate_left
       ·simp only [Act.put, List.setIfInBounds_toArray, List.set_cons_zero, List.set_cons_succ, zp, zq]
        rfl
       refine zA (i := 2) (N := some 40) (v := ?_) (a' := ?_) #[true, true, true, true, false, true, false, false, false, false, false, false, false, false] rfl rfl (zB HT_.out (by kernel_rfl)) (fun _ _ _ h => h) (Or.inl ⟨by rfl, ?_⟩) ?_ ?_
       rotate_left
       ·intro w'
        go_simp
        with_reducible rfl
       rotate_left
       ·simp only [Act.put, List.setIfInBounds_toArray, List.set_cons_zero, List.set_cons_succ, zp, zq]
        rfl
       refine take_ (i := 4) (N := some 42) (v := ?_) (a' := ?_) #[true, true, true, true, true, true, false, false, false, false, false, false, false, false] rfl rfl (take_ofW HT_.out HW_.out (by kernel_rfl)) (fun _ _ _ h => h) (Or.inl ⟨by rfl, ?_⟩) hHeld ?_ ?_
       rotate_left
       ·rintro w' ⟨s0, s1, s2, s3, s4⟩
        go_simp
        with_reducible rfl
       rotate_left
       ·simp only [Act.put, List.setIfInBounds_toArray, List.set_cons_zero, List.set_cons_succ, zp, zq]
        rfl
       refine zA (i := 6) (N := some 44) (v := ?_) (a' := ?_) #[true, true, true, true, true, true, true, false, false, false, false, false, false, false] rfl rfl (zB HT_.out (by kernel_rfl)) (fun _ _ _ h => h) (Or.inl ⟨by rfl, ?_⟩) ?_ ?_
       rotate_left
       ·intro w'
        go_simp
        with_reducible rfl
       rotate_left
       ·simp only [Act.put, List.setIfInBounds_toArray, List.set_cons_zero, List.set_cons_succ, zp, zq]
        rfl
       refine take_ (i := 7) (N := some 45) (v := ?_) (a' := ?_) #[true, true, true, true, true, true, true, true, false, false, false, false, false, false] rfl rfl (take_ofW HT_.out HW_.out (by kernel_rfl)) (fun _ _ _ h => h) (Or.inl ⟨by rfl, ?_⟩) hHeld ?_ ?_
       rotate_left
       ·rintro w' ⟨s0, s1, s2, s3, s4⟩
        go_simp
        with_reducible rfl
       rotate_left
       ·simp only [Act.put, List.setIfInBounds_toArray, List.set_cons_zero, List.set_cons_succ, zp, zq]
        rfl
       refine zA (i := 8) (N := some 46) (v := ?_) (a' := ?_) #[true, true, true, true, true, true, true, true, true, false, false, false, false, false] rfl rfl (zB HT_.out (by kernel_rfl)) (fun _ _ _ h => h) (Or.inl ⟨by rfl, ?_⟩) ?_ ?_
       rotate_left
       ·intro w'
        go_simp
        with_reducible rfl
       rotate_left
       ·simp only [Act.put, List.setIfInBounds_toArray, List.set_cons_zero, List.set_cons_succ, zp, zq]
        rfl
       refine zA (i := 9) (N := some 47) (v := ?_) (a' := ?_) #[true, true, true, true, true, true, true, true, true, true, false, false, false, false] rfl rfl (zB HT_.out (by kernel_rfl)) (fun _ _ _ h => h) (Or.inl ⟨by rfl, ?_⟩) ?_ ?_
       rotate_left
       ·intro w'
        go_simp
        with_reducible rfl
       rotate_left
       ·simp only [Act.put, List.setIfInBounds_toArray, List.set_cons_zero, List.set_cons_succ, zp, zq]
        rfl
       refine zA (i := 10) (N := some 48) (v := ?_) (a' := ?_) #[true, true, true, true, true, true, true, true, true, true, true, false, false, false] rfl rfl (zB HT_.out (by kernel_rfl)) (fun _ _ _ h => h) (Or.inl ⟨by rfl, ?_⟩) ?_ ?_
       rotate_left
       ·intro w'
        go_simp
        with_reducible rfl
       rotate_left
       ·simp only [Act.put, List.setIfInBounds_toArray, List.set_cons_zero, List.set_cons_succ, zp, zq]
        rfl
       refine zA (i := 11) (N := some 49) (v := ?_) (a' := ?_) #[true, true, true, true, true, true, true, true, true, true, true, true, false, false] rfl rfl (zB HT_.out (by kernel_rfl)) (fun _ _ _ h => h) (Or.inl ⟨by rfl, ?_⟩) ?_ ?_
       rotate_left
       ·intro w'
        go_simp
        with_reducible rfl
       rotate_left
       ·simp only [Act.put, List.setIfInBounds_toArray, List.set_cons_zero, List.set_cons_succ, zp, zq]
        rfl
       refine zA (i := 12) (N := some 50) (v := ?_) (a' := ?_) #[true, true, true, true, true, true, true, true, true, true, true, true, true, false] rfl rfl (zB HT_.out (by kernel_rfl)) (fun _ _ _ h => h) (Or.inl ⟨by rfl, ?_⟩) ?_ ?_
       rotate_left
       ·intro w'
        go_simp
        with_reducible rfl
       rotate_left
       ·simp only [Act.put, List.setIfInBounds_toArray, List.set_cons_zero, List.set_cons_succ, zp, zq]
        rfl
       refine last_ (i := 13) (N := none) #[true, true, true, true, true, true, true, true, true, true, true, true, true, true] rfl rfl (one_of HT_.out (by kernel_rfl)) (by decide) (fun K hK => ?_)
       have hs19 : w18.cell? ⟨zI, 2, none⟩ = some (.int .i64 x102002_2) := (zb zG.out 2).trans rfl
       have hfs19 := zd zG.out 2
       refine skip_ (w1 := ?_) (by rfl) rfl ?_ ?_
       rotate_left
       ·go_simp
        rfl
       refine hK.out _ _ ?_
       clear hK K
       refine done_ (done_of HT_.out (by kernel_rfl)) ?_
       try go_wp2
       go_roundg k2
       case measure => have := HJ1.out; have := HK2.out; omega
       case rel => exact ⟨(wrap64 (x5_2 + 1)), (Int.tmod (wrap64 ((wrap64 ((wrap64 (x102002_2 * 257)) + (wrap64 (rd x102000_1 x5_2)))) + 1)) 1000003), (by first | rfl | (simp; done) | (simp [*]; done)), H', ⟨by have := HJ1.out; have := HK2.out; omega⟩, ⟨by (with_reducible repeat (first | apply Kd.R_alloc | apply Kd.R_drewN | apply Kd.R_drew)); exact Kd.R_mono (Kd.R_far (p := ⟨zI, 2, none⟩) (Kd.R_types zH.out zG.out (by decide)) (fun _ hk => hk.2) (.int .i64 (Int.tmod (wrap64 ((wrap64 ((wrap64 (x102002_2 * 257)) + (wrap64 (rd x102000_1 x5_2)))) + 1)) 1000003))) (fun _ hk => trivial)⟩, ⟨by (with_reducible repeat (first | refine zj ?_ _ | refine zg ?_ | refine zh ?_ _)); refine zz (cs := #[.slice (some ad106) x102000_1.length co17, .int .i64 0, .int .i64 x102002_2, .int .i64 0]) ?_ 2 _ rfl; (with_reducible repeat (first | refine zj ?_ _ | refine zg ?_ | refine zh ?_ _)); exact zG.out⟩, ⟨by repeat (first | (with_reducible first | exact HB.out | apply zf | apply ze | apply zi | refine zc ?_ zJ.out) | exact HB.out)⟩⟩
      ·rw [if_neg c15] at H
       exact absurd H (by simp)
     ·rw [if_neg c14] at H
      have c14b0 : decide (x5_2 < (x102000_1.length : Int)) = false := decide_eq_false c14
      clear c14
      by_cases c20 : (wrap64 (1 + (wrap64 ((x102000_1.length : Int) / 50)))) > 7
      ·rw [if_pos c20] at H
       have c20b0 : decide (7 < (wrap64 (1 + (wrap64 ((x102000_1.length : Int) / 50))))) = true := decide_eq_true c20
       clear c20
       simp only [Option.some.injEq, Prod.mk.injEq] at H
       obtain ⟨rfl, rfl, rfl, rfl⟩ := H
       have zjb : wr.cell? ⟨zI, 0, none⟩ = some (u102000) := (zb zG.out 0).trans rfl
       have zkb : wr.cell? ⟨zI, 1, none⟩ = some (.int .i64 0) := (zb zG.out 1).trans rfl
       have zlb : wr.cell? ⟨zI, 2, none⟩ = some (.int .i64 x102002_2) := (zb zG.out 2).trans rfl
       have zmb : wr.cell? ⟨zI, 3, none⟩ = some (.int .i64 0) := (zb zG.out 3).trans rfl
       have znb := zd zG.out 0
       have zob := zd zG.out 1
       have zpb := zd zG.out 2
       have zqb := zd zG.out 3
       obtain ⟨Ao22, co22, eo22⟩ := Kd.R_slice zH.out
       subst eo22
       go_wp2
       go_ret
       exact src_end HB0.out (by repeat (first | (with_reducible first | exact HB.out | apply zf | apply ze | apply zi | refine zc ?_ zJ.out) | exact HB.out)) zJ.out (by first | (simpa using blk_set (blk_set zG.out 3 _) 3 _) | (simpa using blk_set zG.out 3 _)) (by (with_reducible repeat (first | apply Kd.R_alloc | apply Kd.R_drewN | apply Kd.R_drew)); exact Kd.R_mono (Kd.R_far (p := ⟨zI, 3, none⟩) (Kd.R_far (p := ⟨zI, 3, none⟩) (Kd.R_types zH.out zG.out (by decide)) (fun _ hk => hk.2) (.int .i64 (wrap64 (1 + (wrap64 ((x102000_1.length : Int) / 50)))))) (fun _ hk => hk.2) (.int .i64 7)) (fun _ hk => trivial))
      ·rw [if_neg c20] at H
       have c20b0 : decide (7 < (wrap64 (1 + (wrap64 ((x102000_1.length : Int) / 50))))) = false := decide_eq_false c20
       clear c20
       simp only [Option.some.injEq, Prod.mk.injEq] at H
       obtain ⟨rfl, rfl, rfl, rfl⟩ := H
       have zrb : wr.cell? ⟨zI, 0, none⟩ = some (u102000) := (zb zG.out 0).trans rfl
       have zsb : wr.cell? ⟨zI, 1, none⟩ = some (.int .i64 0) := (zb zG.out 1).trans rfl
       have ztb : wr.cell? ⟨zI, 2, none⟩ = some (.int .i64 x102002_2) := (zb zG.out 2).trans rfl
       have zub : wr.cell? ⟨zI, 3, none⟩ = some (.int .i64 0) := (zb zG.out 3).trans rfl
       have zvb := zd zG.out 0
       have zwb := zd zG.out 1
       have zxb := zd zG.out 2
       have zyb := zd zG.out 3
       obtain ⟨Ao24, co24, eo24⟩ := Kd.R_slice zH.out
       subst eo24
       go_wp2
       go_ret
       exact src_end HB0.out (by repeat (first | (with_reducible first | exact HB.out | apply zf | apply ze | apply zi | refine zc ?_ zJ.out) | exact HB.out)) zJ.out (by first | (simpa using blk_set (blk_set zG.out 3 _) 3 _) | (simpa using blk_set zG.out 3 _)) (by (with_reducible repeat (first | apply Kd.R_alloc | apply Kd.R_drewN | apply Kd.R_drew)); exact Kd.R_mono (Kd.R_far (p := ⟨zI, 3, none⟩) (Kd.R_types zH.out zG.out (by decide)) (fun _ hk => hk.2) (.int .i64 (wrap64 (1 + (wrap64 ((x102000_1.length : Int) / 50)))))) (fun _ hk => trivial))

def spec_l1Next.f (s0_0 : List Int) (s0_1 : Int) (s0_2 : Int) (s0_3 : Int) (a1 : Int) : Option (Int × Int × Int × Int) := if a1 ≤ 1 then (some (0, s0_1, s0_2, s0_3)) else (if s0_1 < (s0_0.length : Int) then (if a1 ≤ 256 then (if 0 ≤ s0_1 then (if a1 = 0 then (none) else (some (Int.tmod (wrap64 (rd s0_0 s0_1)) a1, wrap64 (s0_1 + 1), s0_2, s0_3))) else (none)) else (if a1 = 0 then (none) else (some (Int.tmod (wrap64 (Int.tdiv (Int.tmod (wrap64 ((wrap64 (s0_2 * 1103)) + 12347)) 1000003) 3)) a1, s0_1, Int.tmod (wrap64 ((wrap64 (s0_2 * 1103)) + 12347)) 1000003, s0_3)))) else (if a1 = 0 then (none) else (some (Int.tmod (wrap64 (Int.tdiv (Int.tmod (wrap64 ((wrap64 (s0_2 * 1103)) + 12347)) 1000003) 3)) a1, s0_1, Int.tmod (wrap64 ((wrap64 (s0_2 * 1103)) + 12347)) 1000003, s0_3))))
set_option maxHeartbeats 8000000 in
set_option maxRecDepth 100000 in
theorem spec_l1Next.calls (g : Nat) (s0_0 : List Int) (s0_1 : Int) (s0_2 : Int) (s0_3 : Int) (a1 : Int) (r1 : Int) (r2 : Int) (r3 : Int) (r4 : Int) (w0 w : World) (hI : IsS93 w0 w g s0_0 s0_1 s0_2 s0_3) (hB : BelX g w0 w) (h : spec_l1Next.f s0_0 s0_1 s0_2 s0_3 a1 = some (r1, r2, r3, r4)) :
  Calls Try.prog 36 #[.pointer (some ⟨g, 0, none⟩), .int .i64 a1] w fun e w' => e = .returned (.int .i64 r1) ∧ IsS93 w0 w' g s0_0 r2 r3 r4 ∧ BelX g w0 w' ∧ KeepBut w w' g none := by
 have HI0 := Aside0.mk hI
 have HK := Aside0.mk (KeepBut.refl w g none)
 have HL := Aside0.mk hB.size
 clear hI
 have HW0 := Aside0.mk hB.size
 have HB := Aside0.mk hB
 clear hB
 have H : (if a1 ≤ 1 then (some (0, s0_1, s0_2, s0_3)) else (if s0_1 < (s0_0.length : Int) then (if a1 ≤ 256 then (if 0 ≤ s0_1 then (if a1 = 0 then (none) else (some (Int.tmod (wrap64 (rd s0_0 s0_1)) a1, wrap64 (s0_1 + 1), s0_2, s0_3))) else (none)) else (if a1 = 0 then (none) else (some (Int.tmod (wrap64 (Int.tdiv (Int.tmod (wrap64 ((wrap64 (s0_2 * 1103)) + 12347)) 1000003) 3)) a1, s0_1, Int.tmod (wrap64 ((wrap64 (s0_2 * 1103)) + 12347)) 1000003, s0_3)))) else (if a1 = 0 then (none) else (some (Int.tmod (wrap64 (Int.tdiv (Int.tmod (wrap64 ((wrap64 (s0_2 * 1103)) + 12347)) 1000003) 3)) a1, s0_1, Int.tmod (wrap64 ((wrap64 (s0_2 * 1103)) + 12347)) 1000003, s0_3))))) = some (r1, r2, r3, r4) := h
 clear h
 by_cases c3 : a1 ≤ 1
 ·rw [if_pos c3] at H
  have c3b0 : decide (a1 ≤ 1) = true := decide_eq_true c3
  clear c3
  simp only [Option.some.injEq, Prod.mk.injEq] at H
  obtain ⟨rfl, rfl, rfl, rfl⟩ := H
  go_enter Try.func36, Try.ntmps36
  go_wp2
  repeat (go_quiet (fail); try go_wp2)
  go_ret
  exact ⟨by first | rfl | (simp [errW_none, errW_some] <;> rfl) | (simp [*, errW_none, errW_some] <;> rfl), by repeat (first | (with_reducible first | exact HI0.out | apply IsS93.alloc | apply IsS93.drewN | apply IsS93.drew | apply IsS93.set_1 | apply IsS93.set_2 | apply IsS93.set_3) | exact HI0.out), by repeat (first | (with_reducible first | exact HB.out | apply belx_alloc | apply belx_drewN | apply belx_drew | apply belx_setg) | exact HB.out), by repeat (first | (with_reducible first | exact HK.out | apply KeepBut.set_ | apply zx | apply zy | apply zw) | exact HK.out)⟩
 ·rw [if_neg c3] at H
  have c3b0 : decide (a1 ≤ 1) = false := decide_eq_false c3
  clear c3
  by_cases c4 : s0_1 < (s0_0.length : Int)
  ·rw [if_pos c4] at H
   have c4b0 : decide (s0_1 < (s0_0.length : Int)) = true := decide_eq_true c4
   clear c4
   by_cases c5 : a1 ≤ 256
   ·rw [if_pos c5] at H
    have c5b0 : decide (a1 ≤ 256) = true := decide_eq_true c5
    clear c5
    by_cases c6 : 0 ≤ s0_1
    ·rw [if_pos c6] at H
     have c6b0 : decide (0 ≤ s0_1) = true := decide_eq_true c6
     clear c6
     by_cases c7 : a1 = 0
     ·rw [if_pos c7] at H
      exact absurd H (by simp)
     ·rw [if_neg c7] at H
      have c7b0 : (a1 == 0) = false := beq_eq_false_iff_ne.mpr c7
      have c7b1 : (a1 != 0) = true := bne_iff_ne.mpr c7
      simp only [Option.some.injEq, Prod.mk.injEq] at H
      obtain ⟨rfl, rfl, rfl, rfl⟩ := H
      obtain ⟨ASz8_0, cSz8_0, HGz8, hgz8, HSz8_0⟩ := HI0.out
      have zU := cellS93_0 HGz8
      have zV := cellS93_1 HGz8
      have zW := cellS93_2 HGz8
      have zX := cellS93_3 HGz8
      have zY := zd HGz8 1
      have zZ := zd HGz8 2
      have zab := zd HGz8 3
      have hne_ := hgz8.2
      clear HGz8 hgz8
      have p101 : 0 ≤ (s0_1 : Int) := of_decide_eq_true (by first | (with_reducible assumption) | assumption)
      have q101 : s0_1 < (s0_0.length : Int) := of_decide_eq_true (by first | (with_reducible assumption) | assumption)
      obtain ⟨ad101, e101, hx101_0⟩ := Kd.at_int HSz8_0 s0_1 p101 q101
      cases e101
      replace hx101_0 := belx_cell HB.out hx101_0 (by rw [add_block]; exact hne_ _ rfl (by omega))
      clear hne_
      replace p101 := eq_true p101
      replace q101 := eq_true q101
      go_enter Try.func36, Try.ntmps36
      go_wp2
      repeat (go_quiet (fail); try go_wp2)
      go_ret
      exact ⟨by first | rfl | (simp [errW_none, errW_some] <;> rfl) | (simp [*, errW_none, errW_some] <;> rfl), by repeat (first | (with_reducible first | exact HI0.out | apply IsS93.alloc | apply IsS93.drewN | apply IsS93.drew | apply IsS93.set_1 | apply IsS93.set_2 | apply IsS93.set_3) | exact HI0.out), by repeat (first | (with_reducible first | exact HB.out | apply belx_alloc | apply belx_drewN | apply belx_drew | apply belx_setg) | exact HB.out), by repeat (first | (with_reducible first | exact HK.out | apply KeepBut.set_ | apply zx | apply zy | apply zw) | exact HK.out)⟩
    ·rw [if_neg c6] at H
     exact absurd H (by simp)
   ·rw [if_neg c5] at H
    have c5b0 : decide (a1 ≤ 256) = false := decide_eq_false c5
    clear c5
    by_cases c9 : a1 = 0
    ·rw [if_pos c9] at H
     exact absurd H (by simp)
    ·rw [if_neg c9] at H
     have c9b0 : (a1 == 0) = false := beq_eq_false_iff_ne.mpr c9
     have c9b1 : (a1 != 0) = true := bne_iff_ne.mpr c9
     simp only [Option.some.injEq, Prod.mk.injEq] at H
     obtain ⟨rfl, rfl, rfl, rfl⟩ := H
     obtain ⟨ASz10_0, cSz10_0, HGz10, hgz10, HSz10_0⟩ := HI0.out
     have zG := cellS93_0 HGz10
     have zH := cellS93_1 HGz10
     have zI := cellS93_2 HGz10
     have zJ := cellS93_3 HGz10
     have zK := zd HGz10 1
     have zL := zd HGz10 2
     have zM := zd HGz10 3
     have hne_ := hgz10.2
     clear HGz10 hgz10
     go_enter Try.func36, Try.ntmps36
     go_wp2
     repeat (go_quiet (fail); try go_wp2)
     go_ret
     exact ⟨by first | rfl | (simp [errW_none, errW_some] <;> rfl) | (simp [*, errW_none, errW_some] <;> rfl), by repeat (first | (with_reducible first | exact HI0.out | apply IsS93.alloc | apply IsS93.drewN | apply IsS93.drew | apply IsS93.set_1 | apply IsS93.set_2 | apply IsS93.set_3) | exact HI0.out), by repeat (first | (with_reducible first | exact HB.out | apply belx_alloc | apply belx_drewN | apply belx_drew | apply belx_setg) | exact HB.out), by repeat (first | (with_reducible first | exact HK.out | apply KeepBut.set_ | apply zx | apply zy | apply zw) | exact HK.out)⟩
  ·rw [if_neg c4] at H
   have c4b0 : decide (s0_1 < (s0_0.length : Int)) = false := decide_eq_false c4
   clear c4
   by_cases c11 : a1 = 0
   ·rw [if_pos c11] at H
    exact absurd H (by simp)
   ·rw [if_neg c11] at H
    have c11b0 : (a1 == 0) = false := beq_eq_false_iff_ne.mpr c11
    have c11b1 : (a1 != 0) = true := bne_iff_ne.mpr c11
    simp only [Option.some.injEq, Prod.mk.injEq] at H
    obtain ⟨rfl, rfl, rfl, rfl⟩ := H
    obtain ⟨ASz12_0, cSz12_0, HGz12, hgz12, HSz12_0⟩ := HI0.out
    have zN := cellS93_0 HGz12
    have zO := cellS93_1 HGz12
    have zP := cellS93_2 HGz12
    have zQ := cellS93_3 HGz12
    have zR := zd HGz12 1
    have zS := zd HGz12 2
    have zT := zd HGz12 3
    have hne_ := hgz12.2
    clear HGz12 hgz12
    go_enter Try.func36, Try.ntmps36
    go_wp2
    repeat (go_quiet (fail); try go_wp2)
    go_ret
    exact ⟨by first | rfl | (simp [errW_none, errW_some] <;> rfl) | (simp [*, errW_none, errW_some] <;> rfl), by repeat (first | (with_reducible first | exact HI0.out | apply IsS93.alloc | apply IsS93.drewN | apply IsS93.drew | apply IsS93.set_1 | apply IsS93.set_2 | apply IsS93.set_3) | exact HI0.out), by repeat (first | (with_reducible first | exact HB.out | apply belx_alloc | apply belx_drewN | apply belx_drew | apply belx_setg) | exact HB.out), by repeat (first | (with_reducible first | exact HK.out | apply KeepBut.set_ | apply zx | apply zy | apply zw) | exact HK.out)⟩
theorem spec_l1Next.callsX {B_ : Nat} (g : Nat) (s0_0 : List Int) (s0_1 : Int) (s0_2 : Int) (s0_3 : Int) (a1 : Int) (r1 : Int) (r2 : Int) (r3 : Int) (r4 : Int) (w0 w : World) (hI : IsX93 B_ w0 w g s0_0 s0_1 s0_2 s0_3) (hB : Below w0.heap.size w0 w) (h : spec_l1Next.f s0_0 s0_1 s0_2 s0_3 a1 = some (r1, r2, r3, r4)) :
  Calls Try.prog 36 #[.pointer (some ⟨g, 0, none⟩), .int .i64 a1] w fun e w' => e = .returned (.int .i64 r1) ∧ IsX93 B_ w0 w' g s0_0 r2 r3 r4 ∧ Below w0.heap.size w0 w' ∧ KeepBut w w' g none := by
 obtain ⟨wc_, hS_, hX_, hg_, hs_, hs2_, hs3_⟩ := hI
 refine (spec_l1Next.calls g s0_0 s0_1 s0_2 s0_3 a1 r1 r2 r3 r4 wc_ w hS_ hX_ h).mono ?_
 rintro e w' ⟨q0_, q1_, q2_, q3_⟩
 exact ⟨q0_, ⟨wc_, q1_, q2_, hg_, hs_, hs2_, Nat.le_trans hs3_ (q3_.1)⟩, belx_out hB hX_ q2_ q3_ hg_, q3_⟩

end Go.Proofs.Ytejecjjimggjeaa.GFnSync
