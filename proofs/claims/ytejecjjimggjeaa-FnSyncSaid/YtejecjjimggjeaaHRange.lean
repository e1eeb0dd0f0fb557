/- Written by this session: ranges over functions at the wide fence, whatever the program: what an iterator owes (Gives) and the law for the caller (wp_rangeG). -/
import Derived.RangeFuncNested
import Derived.RangeFuncCalls
import Derived.RangeFuncLeaves
import Derived.RangeFuncOwn
import Derived.WalkKit
import Derived.TacticsIn
namespace Go.Proofs.YtejecjjimggjeaaH
open Go Go.RowKit
set_option linter.unusedVariables false
theorem callsIn_of {n : Nat} {P : Program} {f : FuncId} {args : Array Value} {w : World} {R : Ending → World → Prop} (ro : Option Nat) (h : Calls P f args w R) : CallsIn { Fence.wide with round := ro } n P f args w R := callsIn_wide (n := n) |>.2 h
theorem rowsIn_of {n : Nat} {P : Program} {row : String} {args : Array Value} {w : World} {R : Value → World → Prop} (ro : Option Nat) (h : Rows P row args w R) : RowsIn { Fence.wide with round := ro } n P row args w R := by
 intro c cs hc
 obtain ⟨v, w', r, s⟩ := h c cs
 exact ⟨v, w', r, stepsIn_wide.2 s⟩
theorem listIn_of {P : Program} {ops : Array Oper} {Q : Exit → Act → World → Prop} (hQ : ¬ LetsOut Q) (ro : Option Nat) (n : Nat) : ∀ (l : List Oper), (∀ o ∈ l, ∀ c, o.op ≠ .defer c) → ∀ a w, wpList P ops Q l a w → wpListIn { Fence.wide with round := ro } n P ops Q l a w := by
 intro l
 induction l with
 | nil => intro _ a w h; exact h
 | cons o l ih =>
  intro hd a w h
  have ih' := ih (fun o ho => hd o (List.mem_cons_of_mem _ ho))
  simp only [wpList] at h
  simp only [wpListIn]
  split at h
  ·rename_i hw
   rw [if_pos hw]
   rcases h with h | ⟨_, h⟩
   ·refine ⟨fun f _ => trivial, ?_⟩
    rw [Oper.semAt_eq _ _ _ (hd o List.mem_cons_self)]
    unfold Oper.wp at h
    generalize (execOp a.eval o).run P w = r at h
    cases r with
    | ok x w' =>
     cases x with
     | value v => exact ih' _ _ h
     | skip => exact ih' _ _ h
     | «defer» d => exact ih' _ _ h
     | enter f args =>
      refine ⟨fun hh => by simp [Fence.wide] at hh, callsIn_of ro ?_⟩
      refine Calls.mono h ?_
      intro e w'' he
      cases e with
      | returned v => exact ih' _ _ he
      | panicked c => exact he
      | outgrown => exact he
     | row row args =>
      refine ⟨fun hh => by simp [Fence.wide] at hh, rowsIn_of ro ?_⟩
      exact Rows.mono h fun v w'' he => ih' _ _ he
     | _ => exact h.elim
    | halt x w' =>
     cases x with
     | panic v => exact h
     | _ => exact h.elim
   ·exact absurd h hQ
  ·rename_i hw
   rw [if_neg hw]
   exact ⟨fun f _ => trivial, ih' _ _ h⟩

theorem opsIn_of {n : Nat} {P : Program} {ops : Array Oper} {Q : Exit → Act → World → Prop} (hQ : ¬ LetsOut Q) (ro : Option Nat) (hd : ∀ o ∈ ops.toList, ∀ c, o.op ≠ .defer c) : ∀ (l : List Nat), ∀ a w, wpOps P ops Q l a w → wpOpsIn { Fence.wide with round := ro } n P ops Q l a w := by
 intro l
 induction l with
 | nil => intro a w h; exact h
 | cons i l ih =>
  intro a w h
  simp only [wpOps] at h
  simp only [wpOpsIn]
  cases ho : ops[i]? with
  | none => rw [ho] at h; exact ih a w h
  | some o =>
   rw [ho] at h
   simp only at h ⊢
   split at h
   ·rename_i hw
    rw [if_pos hw]
    rcases h with h | ⟨_, h⟩
    ·refine ⟨fun f _ => trivial, ?_⟩
     have hm : o ∈ ops.toList := Array.mem_toList_iff.2 (Array.mem_of_getElem? ho)
     rw [Oper.semAt_eq _ _ _ (hd o hm)]
     unfold Oper.wp at h
     generalize (execOp a.eval o).run P w = r at h
     cases r with
     | ok x w' =>
      cases x with
      | value v => exact ih _ _ h
      | skip => exact ih _ _ h
      | «defer» d => exact ih _ _ h
      | enter f args =>
       refine ⟨fun hh => by simp [Fence.wide] at hh, callsIn_of ro ?_⟩
       refine Calls.mono h ?_
       intro e w'' he
       cases e with
       | returned v => exact ih _ _ he
       | panicked c => exact he
       | outgrown => exact he
      | row row args =>
       refine ⟨fun hh => by simp [Fence.wide] at hh, rowsIn_of ro ?_⟩
       exact Rows.mono h fun v w'' he => ih _ _ he
      | _ => exact h.elim
     | halt x w' =>
      cases x with
      | panic v => exact h
      | _ => exact h.elim
    ·exact absurd h hQ
   ·rename_i hw
    rw [if_neg hw]
    exact ⟨fun f _ => trivial, ih _ _ h⟩
/-- A region that draws, in a round, by the walk of such a region anywhere. -/
theorem regionIn_of {n id : Nat} {P : Program} {ops : Array Oper} {Q : Exit → Act → World → Prop} {a : Act} {w : World} (hQ : ¬ LetsOut Q) (ro : Option Nat) (hd : ∀ o ∈ ops.toList, ∀ c, o.op ≠ .defer c) (hm : P.follows .mixedOrders = true)
  (h : wpAny P .any ops Q ops.size (Array.replicate ops.size false) a w.drew) : (Code.region id ops true).wpIn { Fence.wide with round := ro } n P Q a w :=
 wpIn_region_draw fun t => opsIn_of hQ ro hd _ _ _ (by simp only [Region.schedule, hm, Bool.true_or, if_true]; exact wpAny_sound ops.size t _ a _ h)
theorem regionIn_plain {n id : Nat} {P : Program} {l : List Oper} {Q : Exit → Act → World → Prop} {a : Act} {w : World} (hQ : ¬ LetsOut Q) (ro : Option Nat) (hd : (l.all fun o => match o.op with | .defer _ => false | _ => true) = true)
  (h : wpList P l.toArray Q l a w) : (Code.region id l.toArray false).wpIn { Fence.wide with round := ro } n P Q a w :=
 wpIn_region_lit (listIn_of hQ ro n l (fun o ho c he => by have := List.all_eq_true.mp hd o ho; rw [he] at this; cases this) a w h)

/-- Whatever lay below B, and whatever row of cells there was, is as it was. -/
structure KeepB (B : Nat) (W W' : World) : Prop where
 below : Below B W W'
 cells : ∀ (k : Nat) (cs : Array Value) (t : TypeId) (fr : Nat × Nat), W.heap[k]? = some (Obj.cells cs t fr) → W'.heap[k]? = some (Obj.cells cs t fr)
theorem KeepB.refl (B : Nat) (W : World) : KeepB B W W := ⟨Below.refl B W, fun _ _ _ _ h => h⟩
theorem KeepB.trans {B : Nat} {A C D : World} (h : KeepB B A C) (k : KeepB B C D) : KeepB B A D := ⟨h.below.trans k.below, fun i cs t fr hi => k.cells i cs t fr (h.cells i cs t fr hi)⟩
theorem KeepB.of_below {B : Nat} {W W' : World} (hB : B ≤ W.heap.size) (h : Below W.heap.size W W') : KeepB B W W' := ⟨h.mono hB, fun k cs t fr hk => (h.block k (Array.getElem?_eq_some_iff.1 hk).1).trans hk⟩
theorem KeepB.put {B : Nat} {W : World} {l : Nat} {o : Obj} (o' : Obj) (hl : W.heap[l]? = some o) (ho : o.isCells = false) (hB : B ≤ l) : KeepB B W (W.putObj l o') := by
 refine ⟨(Below.refl B W).grown (grownBy_putObj' W l o') (by have := (Array.getElem?_eq_some_iff.1 hl).1; omega) (fun k e => by cases e; exact hB), fun k cs t fr hk => ?_⟩
 rw [World.putObj_heap_other]
 ·exact hk
 ·rintro rfl; rw [hl] at hk; cases hk; simp [Obj.isCells] at ho
theorem KeepB.mono {B B' : Nat} {W W' : World} (h : KeepB B W W') (hB : B' ≤ B) : KeepB B' W W' := ⟨h.below.mono hB, h.cells⟩

/-- What an iterator owes: it hands over elements x of which 'Pre pre x W0 W1' (pre: what was handed over before) (W0: where the last round had ended) holds, one after the other; all (S) or a part (Sp), a round having said no. -/
def GivesP {α : Type} (P : Program) (n : Nat) (g : Nat) (bs lb : Array Value) (encs : α → Array Value) (Kp : World → World → Prop) (Pre : List α → α → World → World → Prop) (S Sp : List α → Prop) (B : Nat) (w : World) : Prop :=
 ∀ (l : Nat) (J Jx : List α → World → Prop) (W : World), KeepB B w W → w.heap.size ≤ W.heap.size →
  (∀ pre W W', J pre W → Below W.heap.size W W' → J pre W') → (∀ pre W W', Jx pre W → Below W.heap.size W W' → Jx pre W') →
  (∀ pre x W0 W1, J pre W0 → Below W0.heap.size W0 W1 → Pre pre x W0 W1 → YieldAt Fence.wide (n - 1) P l (encs x) W1 fun e W' =>
   (e = .returned (.bool true) ∧ J (pre ++ [x]) W' ∧ Kp W1 W') ∨ (e = .returned (.bool false) ∧ Jx (pre ++ [x]) W')) →
  J [] W →
  CallsIn Fence.wide n P g (bs ++ #[.func (.yield l) #[] #[]] ++ lb) W fun e W' => (∃ v, e = .returned v) ∧ ((∃ xs, S xs ∧ J xs W') ∨ (∃ pre, Sp pre ∧ Jx pre W'))

/-- The same where what is handed over is told by itself. -/
def Gives {α : Type} (P : Program) (n : Nat) (g : Nat) (bs lb : Array Value) (encs : α → Array Value) (Kp : World → World → Prop) (Pre : α → World → World → Prop) (S Sp : List α → Prop) (B : Nat) (w : World) : Prop := GivesP P n g bs lb encs Kp (fun _ => Pre) S Sp B w

/-- How a round's body may be left. -/
def roundEnd {α : Type} (Kp : World → World → Prop) (I : List α → World → Prop) (Ix : Code → List α → World → Prop) (xs : List α) (W : World) : Exit → Act → World → Prop
 | .normal, _, W' => KeepsOthers W W' ∧ Kp W W' ∧ I xs W'
 | .ret, _, W' => KeepsOthers W W' ∧ Ix .ret xs W'
 | .exit id, _, W' => KeepsOthers W W' ∧ Ix (.exit id) xs W'
 | .goto t, _, W' => KeepsOthers W W' ∧ Ix (.goto t) xs W'
 | .panic _, _, _ => False
 | .outgrown, _, _ => False

theorem wp_rangeP {α : Type} {P : Program} {n : Nat} {g : Operand} {ps : Array Tmp} {assign body : Code} {Q : Exit → Act → World → Prop} {a : Act} {w : World} {gf : Nat} {bs lb : Array Value}
  (hg : a.eval g = .func (.func gf) bs lb) (eg : ∀ args w, (callFunc gf args).run P w = .ok (.enter gf args) w)
  {encs : α → Array Value} {Kp : World → World → Prop} {Pre : List α → α → World → World → Prop} {S Sp : List α → Prop} {B : Nat} (hB : B ≤ w.heap.size) (hseq : GivesP P (n - 1) gf bs lb encs Kp Pre S Sp B w)
  (hKt : ∀ {A C D : World}, Kp A C → Kp C D → Kp A D) (hKb : ∀ W W', KeepB w.heap.size W W' → Kp W W') (hps : ∀ x, (encs x).size = ps.size)
  (I : List α → World → Prop) (Ix : Code → List α → World → Prop) (hI : ∀ pre W W', I pre W → KeepB w.heap.size W W' → I pre W') (hIx : ∀ c pre W W', Ix c pre W → KeepB w.heap.size W W' → Ix c pre W') (h0 : I [] w) (Ax : α → Act → World → Prop) (hAx : ∀ x a W W', Ax x a W → KeepB w.heap.size W W' → Ax x a W')
  (hassign : ∀ (l : Nat) (pre : List α) (x : α) (W0 W : World) (K : Act → World → Prop), Pre pre x W0 W → w.heap.size ≤ W.heap.size → (∀ a₁ W₁, Below W.heap.size W W₁ → Ax x a₁ W₁ → K a₁ W₁) →
   assign.wpIn (Fence.wide.inRound l) (n - 1 - 1) P (Exit.then K (fun _ _ _ => False)) { tmps := (ps.zip (encs x)).foldl (fun t (p, v) => t.setIfInBounds p v) a.tmps, defers := [] } W)
  (hbody : ∀ (l : Nat) (pre : List α) (x : α) (a₁ : Act) (W0 W : World), Ax x a₁ W → w.heap.size ≤ W0.heap.size → I pre W0 → KeepB w.heap.size W0 W → W0.heap.size ≤ W.heap.size → Pre pre x W0 W → body.wpIn (Fence.wide.inRound l) (n - 1 - 1) P (roundEnd Kp I Ix (pre ++ [x]) W) a₁ W)
  (hPre : ∀ pre x W0 W W', Pre pre x W0 W → KeepB w.heap.size W W' → W.heap.size ≤ W'.heap.size → Pre pre x W0 W')
  (hdone : ∀ (D : Nat) (xs : List α) (W : World), w.heap.size ≤ D → S xs → I xs W → W.heap[D]? = some (.deferred (some [])) → Q .normal { a with defers := { target := .collected D, args := #[] } :: a.defers } W)
  (hstop : ∀ (D : Nat) (c : Code) (pre : List α) (W : World), w.heap.size ≤ D → Sp pre → Ix c pre W → W.heap[D]? = some (.deferred (some [])) → c.wpIn Fence.wide n P Q { a with defers := { target := .collected D, args := #[] } :: a.defers } W) :
  (Code.rangeFunc g ps assign body).wpIn Fence.wide n P Q a w := by
 refine wpIn_rangeFunc ?_
 intro fn hfn
 obtain ⟨rec, hrec⟩ : ∃ rec : LoopState → Option Code → Loop, rec = fun st pe => { state := st, pending := pe, fn, tmps := a.tmps, params := ps, assign, body, defers := w.heap.size } := ⟨_, rfl⟩
 obtain ⟨W1, hW1⟩ : ∃ W1, (w.alloc (.deferred (some []))).alloc (.loop (rec .ready none)) = W1 := ⟨_, rfl⟩
 have hL1 : W1.heap[w.heap.size + 1]? = some (.loop (rec .ready none)) := by
  rw [← hW1]; have := World.alloc_heap_new (w.alloc (.deferred (some []))) (.loop (rec .ready none)); rwa [World.size_alloc] at this
 have hK1 : W1.heap[w.heap.size]? = some (.deferred (some [])) := by
  rw [← hW1]; exact (Below.heap_alloc _ _ _ (by simp)).trans (World.alloc_heap_new w _)
 have hb1 : Below w.heap.size w W1 := by
  rw [← hW1]; exact ((Below.refl _ w).alloc (Nat.le_refl _) _).alloc (by simp) _
 have hk1 : KeepB w.heap.size w W1 := KeepB.of_below (Nat.le_refl _) hb1
 have hI1 : I [] W1 := hI _ _ _ h0 hk1
 refine ⟨w.heap.size + 1, [{ target := .collected w.heap.size, args := #[] }], W1, { target := .fn (.func gf) lb, args := bs ++ #[.func (.yield (w.heap.size + 1)) #[] #[]] }, W1, gf,
  bs ++ #[.func (.yield (w.heap.size + 1)) #[] #[]] ++ lb, W1, ?_, ?_, fun _ _ => trivial, ?_, fun h => by simp [Fence.wide] at h, ?_⟩
 ·rw [← hW1, hrec]; exact run_enterLoop_outer _ _ _ _ _
 ·simp only [resolve, hg]
  simp [go_sem]
 ·simp [invoke, go_sem, eg]
 refine (hseq (w.heap.size + 1)
  (fun pre W => I pre W ∧ w.heap.size + 1 < W.heap.size ∧ W.heap[w.heap.size + 1]? = some (.loop (rec .ready none)) ∧ W.heap[w.heap.size]? = some (.deferred (some [])))
  (fun pre W => ∃ c, Ix c pre W ∧ w.heap.size + 1 < W.heap.size ∧ W.heap[w.heap.size + 1]? = some (.loop (rec .done (some c))) ∧ W.heap[w.heap.size]? = some (.deferred (some [])))
  W1 (hk1.mono hB) hb1.size
  (fun pre W W' ⟨h1, h2, h3, h4⟩ hb => ⟨hI _ _ _ h1 (KeepB.of_below (by omega) hb), by have := hb.size; omega, (hb.block _ h2).trans h3, (hb.block _ (by omega)).trans h4⟩)
  (fun pre W W' ⟨c, h1, h2, h3, h4⟩ hb => ⟨c, hIx _ _ _ _ h1 (KeepB.of_below (by omega) hb), by have := hb.size; omega, (hb.block _ h2).trans h3, (hb.block _ (by omega)).trans h4⟩)
  ?_ ⟨hI1, (Array.getElem?_eq_some_iff.1 hL1).1, hL1, hK1⟩).mono ?_
 ·rintro pre x W0 W ⟨hi, hlt0, hl0, hk0⟩ hb01 hpre
  have hlt : w.heap.size + 1 < W.heap.size := by have := hb01.size; omega
  have hl := (hb01.block _ hlt0).trans hl0
  have hk := (hb01.block _ (show w.heap.size < W0.heap.size by omega)).trans hk0
  have hy := run_yield (P := P) (args := encs x) hl (by rw [hrec]; exact hps x)
  rw [hrec] at hy
  refine ⟨fn, _, assign, body, hy, roundIn_of_wpIn hfn (hassign _ pre x W0 W _ hpre (by omega) (fun a₁ Wa hba hax => ?_))⟩
  have hla := (hba.block _ hlt).trans hl
  have hka := (hba.block _ (show w.heap.size < W.heap.size by omega)).trans hk
  have hlta : w.heap.size + 1 < Wa.heap.size := by have := hba.size; omega
  have hkA : KeepB w.heap.size W Wa := KeepB.of_below (by omega) hba
  refine ⟨_, run_beginRound hla (by rw [hrec]), ?_⟩
  have hkb : KeepB w.heap.size Wa (Wa.putObj (w.heap.size + 1) (.loop { rec .ready none with state := .busy })) := KeepB.put _ hla rfl (by omega)
  have hl2 : (Wa.putObj (w.heap.size + 1) (.loop { rec .ready none with state := .busy })).heap[w.heap.size + 1]? = some (.loop { rec .ready none with state := .busy }) := World.putObj_heap_same hlta
  have hk2 : (Wa.putObj (w.heap.size + 1) (.loop { rec .ready none with state := .busy })).heap[w.heap.size]? = some (.deferred (some [])) := (World.putObj_heap_other (by omega)).trans hka
  refine wpIn_mono (hbody _ pre x a₁ W0 _ (hAx _ _ _ _ hax hkb) (by omega) hi (((KeepB.of_below (by omega) hb01).trans hkA).trans hkb) (Nat.le_trans hb01.size (Nat.le_trans hba.size hkb.below.size)) (hPre _ _ _ _ _ (hPre _ _ _ _ _ hpre hkA hba.size) hkb hkb.below.size)) ?_
  have fin : ∀ (jump : Option Code) (W3 : World), KeepsOthers (Wa.putObj (w.heap.size + 1) (.loop { rec .ready none with state := .busy })) W3 →
    (Instr.endRound (w.heap.size + 1) jump).run P W3 = .ok (.bool jump.isNone) (W3.putObj (w.heap.size + 1) (.loop (rec (if jump.isNone then .ready else .done) jump))) ∧
    KeepB w.heap.size W3 (W3.putObj (w.heap.size + 1) (.loop (rec (if jump.isNone then .ready else .done) jump))) ∧
    w.heap.size + 1 < (W3.putObj (w.heap.size + 1) (.loop (rec (if jump.isNone then .ready else .done) jump))).heap.size ∧
    (W3.putObj (w.heap.size + 1) (.loop (rec (if jump.isNone then .ready else .done) jump))).heap[w.heap.size + 1]? = some (.loop (rec (if jump.isNone then .ready else .done) jump)) ∧
    (W3.putObj (w.heap.size + 1) (.loop (rec (if jump.isNone then .ready else .done) jump))).heap[w.heap.size]? = some (.deferred (some [])) := fun jump W3 hk3 => by
   have hl3 := hk3.same _ _ hl2 rfl
   have hlt3 := (Array.getElem?_eq_some_iff.1 hl3).1
   have := run_endRound (P := P) jump hl3
   have hp := KeepB.put (.loop (rec (if jump.isNone then .ready else .done) jump)) hl3 rfl (B := w.heap.size) (by omega)
   refine ⟨by rw [hrec] at this ⊢; exact this, hp, by have := hp.below.size; omega, World.putObj_heap_same hlt3, (World.putObj_heap_other (by omega)).trans (hk3.same _ _ hk2 rfl)⟩
  rintro e a3 W3 hp
  cases e with
  | normal =>
   obtain ⟨hk3, hkp3, hi3⟩ := hp
   obtain ⟨hr, hb4, hs4, hl4, hk4⟩ := fin none W3 hk3
   exact ⟨_, _, hr, .inl ⟨rfl, ⟨hI _ _ _ hi3 hb4, hs4, hl4, hk4⟩, hKt (hKb _ _ hkA) (hKt (hKt (hKb _ _ hkb) hkp3) (hKb _ _ hb4))⟩⟩
  | ret =>
   obtain ⟨hk3, hi3⟩ := hp
   obtain ⟨hr, hb4, hs4, hl4, hk4⟩ := fin (some .ret) W3 hk3
   exact ⟨_, _, hr, .inr ⟨rfl, .ret, hIx _ _ _ _ hi3 hb4, hs4, hl4, hk4⟩⟩
  | exit id =>
   obtain ⟨hk3, hi3⟩ := hp
   obtain ⟨hr, hb4, hs4, hl4, hk4⟩ := fin (some (.exit id)) W3 hk3
   exact ⟨_, _, hr, .inr ⟨rfl, .exit id, hIx _ _ _ _ hi3 hb4, hs4, hl4, hk4⟩⟩
  | goto t =>
   obtain ⟨hk3, hi3⟩ := hp
   obtain ⟨hr, hb4, hs4, hl4, hk4⟩ := fin (some (.goto t)) W3 hk3
   exact ⟨_, _, hr, .inr ⟨rfl, .goto t, hIx _ _ _ _ hi3 hb4, hs4, hl4, hk4⟩⟩
  | panic ch => exact hp.elim
  | outgrown => exact hp.elim
 ·rintro e W2 ⟨⟨v, rfl⟩, (⟨xs, hS, hi, hlt, hl, hk⟩ | ⟨pre, hSp, c, hi, hlt, hl, hk⟩)⟩
  ·have he := run_endLoop (P := P) hl (by rw [hrec]; simp)
   rw [hrec] at he
   refine ⟨none, _, he, hdone _ xs _ (Nat.le_refl _) hS (hI _ _ _ hi ?_) ((World.putObj_heap_other (by omega)).trans hk)⟩
   exact KeepB.put _ hl rfl (by omega)
  ·have he := run_endLoop (P := P) hl (by rw [hrec]; simp)
   rw [hrec] at he
   refine ⟨some c, _, he, hstop _ c pre _ (Nat.le_refl _) hSp (hIx _ _ _ _ hi ?_) ((World.putObj_heap_other (by omega)).trans hk)⟩
   exact KeepB.put _ hl rfl (by omega)
theorem wp_rangeG {α : Type} {P : Program} {n : Nat} {g : Operand} {ps : Array Tmp} {assign body : Code} {Q : Exit → Act → World → Prop} {a : Act} {w : World} {gf : Nat} {bs lb : Array Value}
  (hg : a.eval g = .func (.func gf) bs lb) (eg : ∀ args w, (callFunc gf args).run P w = .ok (.enter gf args) w)
  {encs : α → Array Value} {Kp : World → World → Prop} {Pre : α → World → World → Prop} {S Sp : List α → Prop} {B : Nat} (hB : B ≤ w.heap.size) (hseq : Gives P (n - 1) gf bs lb encs Kp Pre S Sp B w)
  (hKt : ∀ {A C D : World}, Kp A C → Kp C D → Kp A D) (hKb : ∀ W W', KeepB w.heap.size W W' → Kp W W') (hps : ∀ x, (encs x).size = ps.size)
  (I : List α → World → Prop) (Ix : Code → List α → World → Prop) (hI : ∀ pre W W', I pre W → KeepB w.heap.size W W' → I pre W') (hIx : ∀ c pre W W', Ix c pre W → KeepB w.heap.size W W' → Ix c pre W') (h0 : I [] w) (Ax : α → Act → World → Prop) (hAx : ∀ x a W W', Ax x a W → KeepB w.heap.size W W' → Ax x a W')
  (hassign : ∀ (l : Nat) (x : α) (W0 W : World) (K : Act → World → Prop), Pre x W0 W → w.heap.size ≤ W.heap.size → (∀ a₁ W₁, Below W.heap.size W W₁ → Ax x a₁ W₁ → K a₁ W₁) →
   assign.wpIn (Fence.wide.inRound l) (n - 1 - 1) P (Exit.then K (fun _ _ _ => False)) { tmps := (ps.zip (encs x)).foldl (fun t (p, v) => t.setIfInBounds p v) a.tmps, defers := [] } W)
  (hbody : ∀ (l : Nat) (pre : List α) (x : α) (a₁ : Act) (W0 W : World), Ax x a₁ W → w.heap.size ≤ W0.heap.size → I pre W0 → KeepB w.heap.size W0 W → W0.heap.size ≤ W.heap.size → Pre x W0 W → body.wpIn (Fence.wide.inRound l) (n - 1 - 1) P (roundEnd Kp I Ix (pre ++ [x]) W) a₁ W)
  (hPre : ∀ x W0 W W', Pre x W0 W → KeepB w.heap.size W W' → W.heap.size ≤ W'.heap.size → Pre x W0 W')
  (hdone : ∀ (D : Nat) (xs : List α) (W : World), w.heap.size ≤ D → S xs → I xs W → W.heap[D]? = some (.deferred (some [])) → Q .normal { a with defers := { target := .collected D, args := #[] } :: a.defers } W)
  (hstop : ∀ (D : Nat) (c : Code) (pre : List α) (W : World), w.heap.size ≤ D → Sp pre → Ix c pre W → W.heap[D]? = some (.deferred (some [])) → c.wpIn Fence.wide n P Q { a with defers := { target := .collected D, args := #[] } :: a.defers } W) :
  (Code.rangeFunc g ps assign body).wpIn Fence.wide n P Q a w :=
 wp_rangeP (Pre := fun _ => Pre) hg eg hB hseq hKt hKb hps I Ix hI hIx h0 Ax hAx (fun l _ => hassign l) hbody (fun _ => hPre) hdone hstop
end Go.Proofs.YtejecjjimggjeaaH
