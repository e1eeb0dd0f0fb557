/- Written by give.py, a program of this session, that runs the kit's print and lays contracts proved by hand beside it. -/
import Derived.Test.YtejecjjimggjeaaGFnTornSuperx0
import Derived.Test.YtejecjjimggjeaaGFnTornSuperx2
namespace Go.Proofs.Ytejecjjimggjeaa.GFnTornSuper
open Go.RowKit Go.Proofs.YtejecjjimggjeaaW.PrintWords Go.Proofs.YtejecjjimggjeaaW.PrintLast Go.Proofs.YtejecjjimggjeaaW.PrintMore
attribute [local go_sem] max2_int min2_int max_two min_two max_three min_three max_four min_four
attribute [local go_sem high] Go.Proofs.YtejecjjimggjeaaH.str_leq Go.Proofs.YtejecjjimggjeaaH.str_geq Go.Proofs.YtejecjjimggjeaaH.str_gtr   -- for this text's walks alone
set_option linter.unusedVariables false
set_option linter.unusedSimpArgs false

structure Rdr (W0 W : World) (gr : Nat) (l : List Int) : Prop where
 cell : ∃ A c, W.heap[gr]? = some (.cells #[.slice A l.length c] 110 (0, 0)) ∧ Kd.C (Kd.int .u8) W0 A l.length l ∧ l.length ≤ c
 ge : W0.heap.size ≤ gr
 bel : Below W0.heap.size W0 W
theorem infoSz8_ : ∃ i, Try.prog.info? 5 = some i ∧ i.size = 1 := by
 obtain ⟨i0, hi0, hz0⟩ := Option.map_eq_some_iff.1 (show (Try.prog.info? 5).map (·.size) = some 1 by kernel_rfl)
 exact ⟨i0, hi0, hz0⟩
set_option maxHeartbeats 4000000 in
set_option maxRecDepth 100000 in
theorem take_c (W0 W : World) (gr : Nat) (l : List Int) (n : Nat) (h : Rdr W0 W gr l) (hn : n ≤ l.length) (hl : l.length ≤ 281474976710656) :
  Calls Try.prog 79 #[.pointer (some ⟨gr, 0, none⟩), .int .i64 n] W fun e w' => ∃ A c, e = .returned (.slice A n c) ∧ Kd.C (Kd.int .u8) W0 A n (l.take n) ∧ n ≤ c ∧ Rdr W0 w' gr (l.drop n) ∧ Kept W w' (fun k => k = gr) := by
 obtain ⟨A, c, hc, hr, hlc⟩ := h.cell
 obtain ⟨i0, hi0, hz0⟩ := infoSz8_
 have hcut1 := cut_to (P := Try.prog) 22 5 .i64 Try.underlying22 hi0 A l.length c (n : Int) (by omega) (by omega) hlc
 have hcut2 := cut_from (P := Try.prog) 22 5 .i64 Try.underlying22 hi0 1 hz0 A l.length c (n : Int) (by omega) (by omega)
 rw [Int.toNat_natCast] at hcut1 hcut2
 obtain ⟨A2, hA2⟩ : ∃ A2, A2 = (if c = n then A else A.map (·.add (n * 1))) := ⟨_, rfl⟩
 rw [← hA2] at hcut2
 have HCA2 := Aside0.mk hA2
 have hgt : decide ((l.length : Int) < (n : Int)) = false := decide_eq_false (by omega)
 have hgt2 : ((l.length : Int) < (n : Int)) = False := eq_false (by omega)
 have hgt3 : (l.length < n) = False := eq_false (by omega)
 have hcell : W.cell? ⟨gr, 0, none⟩ = some (.slice A l.length c) := (zc hc 0).trans rfl
 have hfz := zb hc 0
 have HC := Aside0.mk hc
 have HH := Aside0.mk h
 have HR := Aside0.mk hr
 have HLC := Aside0.mk hlc
 have HN := Aside0.mk hn
 clear hc h hr hlc hn hA2 hi0 hz0
 go_enter Try.func79, Try.ntmps79
 go_wp2
 go_ret
 refine ⟨A, c, rfl, ?_, by have := HLC.out; have := HN.out; omega, ⟨⟨A2, c - n, ?_, ?_, ?_⟩, HH.out.ge, HH.out.bel.setCell (p := ⟨gr, 0, none⟩) HH.out.ge _⟩, Kept.setCell (p := ⟨gr, 0, none⟩) (Kept.refl W (fun k => k = gr)) (.inl rfl) _⟩
 ·have h1 := Kd.C_take HR.out HN.out
  rwa [show (l.take n).length = n by rw [List.length_take]; have := HN.out; omega] at h1
 ·rw [List.length_drop]; exact blk_set HC.out 0 _
 ·rw [HCA2.out]; exact Kd.C_drop HR.out HN.out HLC.out
 ·rw [List.length_drop]; have := HLC.out; omega
def ranOut_ : Value := .iface 107 (.agg #[])
def numStep (v b : Int) : Int := bits BinOp.or .u64 (IntKind.u64.wrap (v * 256)) (IntKind.u64.wrap b)
def rnum (l : List Int) : Int := wrap64 (l.foldl numStep 0)
theorem foldl_rd {q : List Int} {i : Nat} (h : i < q.length) (v : Int) : (q.take (i + 1)).foldl numStep v = numStep ((q.take i).foldl numStep v) (rd q (i : Int)) := by
 rw [List.take_succ_eq_append_getElem h, List.foldl_append]
 simp [rd, h]
theorem cells_at {W : World} {A : Option Addr} {m : Nat} {l : List Int} (h : (Kd.int .u8).C W A m l) (i : Nat) (hi : i < m) : ∃ ad, A = some ad ∧ W.cell? (ad.add i) = some (.int .u8 (rd l (i : Int))) := by
 obtain ⟨ad, e, hx⟩ := Kd.at_int h (i : Int) (by omega) (by omega)
 rw [Int.toNat_natCast] at hx
 exact ⟨ad, e, hx⟩
set_option maxHeartbeats 4000000 in
set_option maxRecDepth 100000 in
theorem num_c (W0 W : World) (gr : Nat) (l : List Int) (n : Nat) (h : Rdr W0 W gr l) (hn : n ≤ l.length) (hl : l.length ≤ 281474976710656) :
  Calls Try.prog 58 #[.pointer (some ⟨gr, 0, none⟩), .int .i64 n] W fun e w' => e = .returned (.int .i64 (rnum (l.take n))) ∧ Rdr W0 w' gr (l.drop n) ∧ Kept W w' (fun k => k = gr) := by
 have HH := Aside0.mk h
 have HN := Aside0.mk hn
 have HL := Aside0.mk hl
 have HQ : Aside0 ((l.take n).length = n) := ⟨by rw [List.length_take]; omega⟩
 obtain ⟨q, hq⟩ : ∃ q, q = l.take n := ⟨_, rfl⟩
 have HQE := Aside0.mk hq
 rw [← hq] at HQ ⊢
 clear h hn hl hq
 go_enter Try.func58, Try.ntmps58
 go_wp2_with ((with_reducible refine zo (f := 79) rfl ?_); refine goesL_ (some 10) rfl rfl Try.func79 (by kernel_rfl) rfl #[.pointer (some ⟨gr, 0, none⟩), .int .i64 n] rfl (by (try simp only [List.map_toArray, List.map_cons, List.map_nil]); first | done | rfl) ?_; refine (take_c W0 W gr l n HH.out HN.out HL.out).mono ?_; rintro e w1 ⟨A, c, rfl, hA_, hc_, hR_, hk_⟩; refine ⟨_, rfl, ?_⟩; (rw [← HQE.out] at hA_); have HA := Aside0.mk hA_; have HCC := Aside0.mk hc_; have HR1 := Aside0.mk hR_; have HK1 := Aside0.mk hk_; clear hA_ hc_ hR_ hk_)
 go_loopg [5, 12] n (fun kq v5 v12 w' => ∃ (x : Int) (i : Nat) (v : Int), v5 = .int .u64 v ∧ v12 = .int .i64 x ∧ Aside0 (x = (i : Int)) ∧ Aside0 (i + kq = n) ∧ Aside0 (v = (q.take i).foldl numStep 0) ∧ w' = w1)
 case atStart => exact ⟨0, 0, 0, rfl, rfl, ⟨rfl⟩, ⟨by omega⟩, ⟨rfl⟩, rfl⟩
 case round =>
  obtain ⟨x, i, v, rfl, rfl, HX, HK, HV, rfl⟩ := hrel
  cases gk with
  | zero =>
   have hi : i = n := by have := HK.out; omega
   subst hi
   have hx : x = (i : Int) := HX.out
   clear HX
   subst hx
   have hlt : decide ((i : Int) < (i : Int)) = false := decide_eq_false (by omega)
   go_wp2
   go_ret
   refine ⟨?_, HR1.out, HK1.out⟩
   unfold rnum
   have h1 := HV.out
   rw [List.take_of_length_le (by rw [HQ.out]; exact Nat.le_refl _)] at h1
   rw [h1]
   rfl
  | succ k2 =>
   have hi : i < n := by have := HK.out; omega
   have hx : x = (i : Int) := HX.out
   clear HX
   subst hx
   obtain ⟨ad, e1, hcx⟩ := cells_at (Kd.C_below HA.out HR1.out.bel) i hi
   subst e1
   have hlt : decide ((i : Int) < (n : Int)) = true := decide_eq_true (by omega)
   have hlt2 : (i < n) = True := eq_true hi
   have hi0 : (0 : Int) ≤ (i : Int) := by omega
   have HI := Aside0.mk hi
   clear hi
   go_wp2
   go_roundg k2
   case measure => omega
   case rel =>
    refine ⟨_, i + 1, _, rfl, rfl, ⟨?_⟩, ⟨by have := HK.out; omega⟩, ⟨?_⟩, rfl⟩
    ·have := HI.out
     have := HN.out
     have := HL.out
     unfold wrap64
     omega
    ·rw [foldl_rd (by rw [HQ.out]; exact HI.out), ← HV.out]
     rfl
set_option maxHeartbeats 4000000 in
set_option maxRecDepth 100000 in
theorem good1_idle (p : Addr) (w : World) :
  CallsD Try.prog 78 #[.pointer (some p)] .returning w fun e u' w' => e = .returned (.tuple #[]) ∧ u' = .returning ∧ w' = w := by
 have hn : ∀ w : World, (binOp BinOp.neq 20 .nilIface .nilIface).run Try.prog w = .ok (.bool false) w := fun _ => by kernel_rfl
 refine callsD_of_wpS Try.func78 rfl fun c₀ cs hu => ?_
 apply wpS_seq
 apply wpS_region
 simp [wpOpsS, go_sem, recoverD, hu, Try.ntmps78, Exit.thenS]
 refine wpS_of_wp ?_
 go_wp2
 cases c₀
 simp_all [bodyPostS, results, Try.results78]
set_option maxHeartbeats 4000000 in
set_option maxRecDepth 100000 in
theorem good1_catch (g : Nat) (b : Bool) (older : List PanicEntry) (w : World) (hc : w.heap[g]? = some (.cells #[.bool b] 4 (0, 0))) :
  CallsD Try.prog 78 #[.pointer (some ⟨g, 0, none⟩)] (.panicking ({ v := ranOut_, recovered := false } :: older)) w fun e u' w' => e = .returned (.tuple #[]) ∧ u' = .panicking ({ v := ranOut_, recovered := true } :: older) ∧ w'.heap[g]? = some (.cells #[.bool false] 4 (0, 0)) ∧ Kept w w' (fun k => k = g) ∧ Below g w w' := by
 have HC := Aside0.mk hc
 unfold ranOut_
 have hn : ∀ w : World, (binOp BinOp.neq 20 (.iface 107 (.agg #[])) .nilIface).run Try.prog w = .ok (.bool true) w := fun _ => by kernel_rfl
 have hg : ∀ w : World, (eqGuard BinOp.neq 20 (Operand.tmp 5) (Operand.const Value.nilIface) (.iface 107 (.agg #[])) .nilIface).run Try.prog w = .ok () w := fun _ => by kernel_rfl
 have ht : ∀ w : World, (Instr.typeAssert (.iface 107 (.agg #[])) 20 107 true).run Try.prog w = .ok (.tuple #[.agg #[], .bool true]) w := fun _ => by kernel_rfl
 have hA := ze hc (.cells #[] 107)
 have hcA : (w.alloc (.cells #[] 107)).cell? ⟨g, 0, none⟩ = some (.bool b) := (zc hA 0).trans rfl
 have hzA := zb hA 0
 have HA := Aside0.mk hA
 clear hc hA
 refine callsD_of_wpS Try.func78 rfl fun c₀ cs hu => ?_
 apply wpS_seq
 apply wpS_region
 simp [wpOpsS, go_sem, recoverD, hu, Try.ntmps78, Exit.thenS]
 refine wpS_of_wp ?_
 simp only [Array.replicate_succ, Array.replicate_zero, List.push_toArray, List.append_toArray, List.nil_append, List.cons_append, List.setIfInBounds_toArray, List.set_cons_zero, List.set_cons_succ]
 go_wp2
 exact ⟨rfl, _, rfl, _, results_none rfl _ _ _, rfl, rfl, blk_set HA.out 0 _, Kept.setCell (p := ⟨g, 0, none⟩) (Kept.alloc (Kept.refl w (fun k => k = g)) _) (.inl rfl) _, ((zg (Below.refl w.heap.size w) _).mono (Nat.le_of_lt (blk_lt HC.out))).setCell (p := ⟨g, 0, none⟩) (Nat.le_refl _) _⟩
theorem results_bool1 {P : Program} {fn : Func} {p : Tmp} {T : TypeId} {tmps : Array Value} {w : World} {ad : Addr} {v : Value} (h : fn.results = #[.cell p T]) (hp : tmps[p]?.getD undef = .pointer (some ad)) (hu : P.underlying T = some .bool) (hc : w.cell? ad = some v) : (results fn tmps).run P w = .ok v w := by
 have hag : (isAgg T).run P w = .ok false w := by simp [isAgg, run_underlying hu]
 simp [results, h, hp, go_sem, hag, hc]
/-- The reading function ends (returned or out of bytes), and good says whether nothing was left. -/
def GoodF (F : FuncId) (cap : Array Value) (W0 W : World) (l : List Int) (T : Option (List Int) → World → Prop) : Prop :=
 ∀ (W1 : World) (gr : Nat), W.heap.size + 1 = gr → Rdr W0 W1 gr l → Below W.heap.size W W1 → W1.heap[W.heap.size]? = some (.cells #[.bool false] 4 (0, 0)) → Calls Try.prog F (#[.pointer (some ⟨gr, 0, none⟩)] ++ cap) W1 fun e w' =>
  (∃ v l', e = .returned v ∧ Rdr W0 w' gr l' ∧ T (some l') w' ∧ w'.heap[W.heap.size]? = some (.cells #[.bool false] 4 (0, 0))) ∨ (e = .panicked [{ v := ranOut_, recovered := false }] ∧ T none w' ∧ w'.heap[W.heap.size]? = some (.cells #[.bool false] 4 (0, 0)))
set_option maxHeartbeats 4000000 in
set_option maxRecDepth 100000 in
theorem good_c (W0 W : World) (hB0 : Below W0.heap.size W0 W) (A : Option Addr) (c : Nat) (l : List Int) (hr : (Kd.int .u8).C W0 A l.length l) (hc : l.length ≤ c) (F : FuncId) (cap : Array Value) (hen : ∀ args w, (callFunc F args).run Try.prog w = .ok (.enter F args) w) (T : Option (List Int) → World → Prop) (hf : GoodF F cap W0 W l T)
  (hT : ∀ o w w', T o w → Kept w w' (fun k => k = W.heap.size) → Below W.heap.size w w' → T o w') :
  Calls Try.prog 56 #[.slice A l.length c, .func (.func F) #[] cap] W fun e w' => ∃ o, e = .returned (.bool (decide (o = some []))) ∧ T o w' := by
 have hmf : ∀ (fn : Fn) (first cap : Array Value) (w : World), (Instr.makeFunc fn first cap).run Try.prog w = .ok (.func fn first cap) w := fun _ _ _ _ => rfl
 go_enter_defers Try.func56, Try.ntmps56
 go_wp2
 have hw1 := blk_new (W.alloc (.cells #[.bool false] 4)) (.cells #[.slice A l.length c] 110)
 have hb2 : Below W.heap.size W ((W.alloc (.cells #[.bool false] 4)).alloc (.cells #[.slice A l.length c] 110)) := zg (zg (Below.refl _ _) _) _
 have hw1' : ((W.alloc (.cells #[.bool false] 4)).alloc (.cells #[.slice A l.length c] 110)).heap[W.heap.size + 1]? = some (.cells #[.slice A l.length c] 110 (0, 0)) := by rw [World.size_alloc] at hw1; exact hw1
 refine (hf _ _ rfl ⟨⟨A, c, hw1', hr, hc⟩, by have := hB0.size; omega, zl hB0 hb2⟩ hb2 (ze (blk_new W (.cells #[.bool false] 4)) _)).mono ?_
 rintro e w3 (⟨v, l', rfl, hR3, hT3, hb3⟩ | ⟨rfl, hT3, hb3⟩)
 ·obtain ⟨A', c', hc3, _, _⟩ := hR3.cell
  have hcell : w3.cell? ⟨W.heap.size + 1, 0, none⟩ = some (.slice A' l'.length c') := (zc hc3 0).trans rfl
  have hcb : w3.cell? ⟨W.heap.size, 0, none⟩ = some (.bool false) := (zc hb3 0).trans rfl
  have hzb := zb hb3 0
  have HB3 := Aside0.mk hb3
  have HT3 := Aside0.mk hT3
  clear hf hT3 hR3 hc3 hb3 hw1 hw1' hb2
  go_wp2
  refine leaves_cons (f := 78) (args := #[.pointer (some ⟨W.heap.size, 0, none⟩)]) (by simp) (by simp [go_sem]) ?_
  refine (good1_idle ⟨W.heap.size, 0, none⟩ _).mono ?_
  rintro e u' w'' ⟨rfl, rfl, rfl⟩
  have hbs := blk_set HB3.out 0 (.bool ((l'.length : Int) == 0))
  have hcs : (w3.setCell ⟨W.heap.size, 0, none⟩ (.bool ((l'.length : Int) == 0))).cell? ⟨W.heap.size, 0, none⟩ = some (.bool ((l'.length : Int) == 0)) := (zc hbs 0).trans rfl
  refine ⟨_, results_bool1 rfl rfl Try.underlying4 hcs, some l', ?_, hT _ _ _ HT3.out (Kept.setCell (p := ⟨W.heap.size, 0, none⟩) (Kept.refl w3 (fun k => k = W.heap.size)) (.inl rfl) _) ((Below.refl W.heap.size w3).setCell (p := ⟨W.heap.size, 0, none⟩) (Nat.le_refl _) _)⟩
  cases l' with
  | nil => rfl
  | cons a l' =>
   have h1 : ¬ (((a :: l').length : Int) = 0) := by rw [List.length_cons]; omega
   simp only [reduceCtorEq, decide_false, Option.some.injEq, beq_eq_false_iff_ne.mpr h1]
 ·have HB3 := Aside0.mk hb3
  have HT3 := Aside0.mk hT3
  clear hf hT3 hw1 hw1' hb2
  go_wp2
  refine leaves_cons (f := 78) (args := #[.pointer (some ⟨W.heap.size, 0, none⟩)]) (by simp) (by simp [go_sem]) ?_
  refine (good1_catch W.heap.size false [] w3 HB3.out).mono ?_
  rintro e u' w4 ⟨rfl, rfl, hb4, hk4, hl4⟩
  have hcs : w4.cell? ⟨W.heap.size, 0, none⟩ = some (.bool false) := (zc hb4 0).trans rfl
  exact ⟨_, results_bool1 rfl rfl Try.underlying4 hcs, none, rfl, hT _ _ _ HT3.out hk4 hl4⟩
theorem Rdr.far {W0 W W2 : World} {gr g : Nat} {l : List Int} (h : Rdr W0 W gr l) (hg : W.grownBy W2 (some g)) (hne : gr ≠ g) (hge : W0.heap.size ≤ g) : Rdr W0 W2 gr l := by
 obtain ⟨A, c, h1, h2, h3⟩ := h.cell
 exact ⟨⟨A, c, blk_grown h1 hg (fun e => hne (by injection e)), h2, h3⟩, h.ge, pw_below_grown h.bel (some g) h.bel.size hg (fun k_ hk_ => by injection hk_ with hk_; rw [← hk_]; exact hge)⟩
def SupT (W0 W : World) (gs : Nat) (l : List Int) (o : Option (List Int)) (w' : World) : Prop := o = some (l.drop 21) ∧ w'.heap[gs]? = some (.cells #[.int .i64 (rnum ((l).take 8)), .int .i64 (rnum ((l.drop 8).take 1)), .int .i64 (rnum ((l.drop 9).take 4)), .int .i64 (rnum ((l.drop 13).take 4)), .int .i64 (rnum ((l.drop 17).take 4))] 52 (0, 0)) ∧ Kept W w' (fun k => k = gs) ∧ Below W0.heap.size W0 w'
set_option maxHeartbeats 8000000 in
set_option maxRecDepth 100000 in
theorem sup_f (W0 W : World) (gs : Nat) (l : List Int) (hl : l.length = 64) (hs : W.heap[gs]? = some (.cells #[.int .i64 0, .int .i64 0, .int .i64 0, .int .i64 0, .int .i64 0] 52 (0, 0))) (hge : W0.heap.size ≤ gs) : GoodF 57 #[.pointer (some ⟨gs, 0, none⟩)] W0 W l (SupT W0 W gs l) := by
 intro W1 gr hgr hR hB hok
 have HH := Aside0.mk hR
 have HB := Aside0.mk hB
 have HOK := Aside0.mk hok
 have HL := Aside0.mk hl
 have HS1 := Aside0.mk ((hB.block _ (blk_lt hs)).trans hs)
 have HNE : Aside0 (gs ≠ gr ∧ gs ≠ W.heap.size ∧ W.heap.size ≠ gr) := ⟨by have := blk_lt hs; omega⟩
 have HGE := Aside0.mk hge
 clear hR hB hok hl hs hge
 go_enter Try.func57, Try.ntmps57
 go_wp2_with (first | ((with_reducible refine zo (f := 58) rfl ?_); refine goesL_ (some 4) rfl rfl Try.func58 (by kernel_rfl) rfl #[.pointer (some ⟨gr, 0, none⟩), .int .i64 8] rfl (by (try simp only [List.map_toArray, List.map_cons, List.map_nil]); first | done | rfl) ?_; refine (num_c W0 W1 gr (l) 8 HH.out (by have := HL.out; (try simp only [List.length_drop]); omega) (by have := HL.out; (try simp only [List.length_drop]); omega)).mono ?_; rintro e w1_ ⟨rfl, hR_, hk_⟩; refine ⟨_, rfl, ?_⟩; (try simp only [List.drop_drop, Nat.reduceAdd] at hR_); have HR1 := Aside0.mk hR_; have HK1 := Aside0.mk (hk_); clear hR_ hk_) | ((with_reducible refine zo (f := 58) rfl ?_); refine goesL_ (some 6) rfl rfl Try.func58 (by kernel_rfl) rfl #[.pointer (some ⟨gr, 0, none⟩), .int .i64 1] rfl (by (try simp only [List.map_toArray, List.map_cons, List.map_nil]); first | done | rfl) ?_; refine (num_c W0 w1_ gr (l.drop 8) 1 HR1.out (by have := HL.out; (try simp only [List.length_drop]); omega) (by have := HL.out; (try simp only [List.length_drop]); omega)).mono ?_; rintro e w2_ ⟨rfl, hR_, hk_⟩; refine ⟨_, rfl, ?_⟩; (try simp only [List.drop_drop, Nat.reduceAdd] at hR_); have HR2 := Aside0.mk hR_; have HK2 := Aside0.mk (HK1.out.then_ hk_ (fun _ h_ => .inl h_)); clear hR_ hk_) | ((with_reducible refine zo (f := 58) rfl ?_); refine goesL_ (some 8) rfl rfl Try.func58 (by kernel_rfl) rfl #[.pointer (some ⟨gr, 0, none⟩), .int .i64 4] rfl (by (try simp only [List.map_toArray, List.map_cons, List.map_nil]); first | done | rfl) ?_; refine (num_c W0 w2_ gr (l.drop 9) 4 HR2.out (by have := HL.out; (try simp only [List.length_drop]); omega) (by have := HL.out; (try simp only [List.length_drop]); omega)).mono ?_; rintro e w3_ ⟨rfl, hR_, hk_⟩; refine ⟨_, rfl, ?_⟩; (try simp only [List.drop_drop, Nat.reduceAdd] at hR_); have HR3 := Aside0.mk hR_; have HK3 := Aside0.mk (HK2.out.then_ hk_ (fun _ h_ => .inl h_)); clear hR_ hk_) | ((with_reducible refine zo (f := 58) rfl ?_); refine goesL_ (some 10) rfl rfl Try.func58 (by kernel_rfl) rfl #[.pointer (some ⟨gr, 0, none⟩), .int .i64 4] rfl (by (try simp only [List.map_toArray, List.map_cons, List.map_nil]); first | done | rfl) ?_; refine (num_c W0 w3_ gr (l.drop 13) 4 HR3.out (by have := HL.out; (try simp only [List.length_drop]); omega) (by have := HL.out; (try simp only [List.length_drop]); omega)).mono ?_; rintro e w4_ ⟨rfl, hR_, hk_⟩; refine ⟨_, rfl, ?_⟩; (try simp only [List.drop_drop, Nat.reduceAdd] at hR_); have HR4 := Aside0.mk hR_; have HK4 := Aside0.mk (HK3.out.then_ hk_ (fun _ h_ => .inl h_)); clear hR_ hk_) | ((with_reducible refine zo (f := 58) rfl ?_); refine goesL_ (some 12) rfl rfl Try.func58 (by kernel_rfl) rfl #[.pointer (some ⟨gr, 0, none⟩), .int .i64 4] rfl (by (try simp only [List.map_toArray, List.map_cons, List.map_nil]); first | done | rfl) ?_; refine (num_c W0 w4_ gr (l.drop 17) 4 HR4.out (by have := HL.out; (try simp only [List.length_drop]); omega) (by have := HL.out; (try simp only [List.length_drop]); omega)).mono ?_; rintro e w5_ ⟨rfl, hR_, hk_⟩; refine ⟨_, rfl, ?_⟩; (try simp only [List.drop_drop, Nat.reduceAdd] at hR_); have HR5 := Aside0.mk hR_; have HK5 := Aside0.mk (HK4.out.then_ hk_ (fun _ h_ => .inl h_)); clear hR_ hk_) | (refine Go.Proofs.YtejecjjimggjeaaH.store_arr (g := gs) (cells := #[.int .i64 (rnum ((l).take 8)), .int .i64 (rnum ((l.drop 8).take 1)), .int .i64 (rnum ((l.drop 9).take 4)), .int .i64 (rnum ((l.drop 13).take 4)), .int .i64 (rnum ((l.drop 17).take 4))]) rfl (t := 52) rfl rfl rfl rfl ((HK5.out.2 gs (blk_lt HS1.out) HNE.out.1).trans HS1.out) (by kernel_rfl) rfl (by kernel_rfl) ?_; intro w6 hA_ hg_; have HA6 := Aside0.mk hA_; have HG6 := Aside0.mk hg_; clear hA_ hg_))
 go_end0
 have hR6 := HR5.out.far HG6.out (Ne.symm HNE.out.1) HGE.out
 have hk6 : Kept W w6 (fun k => k = gs) := by
  have h1 : Kept W1 w6 (fun k => k = gr ∨ k = gs) := Kept.of_grown HG6.out (HK5.out.mono (fun _ h_ => .inl h_)) (fun k_ hk_ => by injection hk_ with hk_; exact .inl (.inr hk_.symm))
  exact (Kept.of_below HB.out _).then_ h1 (fun k h_ => Or.elim h_ (fun h2_ => .inr (by omega)) .inl)
 refine .inl ⟨_, _, rfl, hR6, ⟨rfl, HA6.out, hk6, hR6.bel⟩, ?_⟩
 exact blk_grown ((HK5.out.2 _ (blk_lt HOK.out) HNE.out.2.2).trans HOK.out) HG6.out (fun e_ => HNE.out.2.1 (by injection e_ with e_; exact e_.symm))
def arrV (l : List Int) : Value := .agg (l.map (Value.int .u8)).toArray
theorem run_toarr {o : Oper} {a : Act} {x : Operand} {w : World} {A : Option Addr} {m c : Nat} (ho : o.op = .sliceToArrayPointer 76 x) (hx : a.eval x = .slice A m c) (hm : 64 ≤ m) : (execOp a.eval o).run Try.prog w = .ok (.value (.pointer A)) w := by
 unfold execOp
 simp [ho, hx, Instr.arrayAt, run_underlying Try.underlying76, show ¬ m < 64 by omega]
theorem run_ldC {o : Oper} {a : Act} {x : Operand} {W : World} {A : Option Addr} {xs : List Int} (ho : o.op = .load 76 x) (hx : a.eval x = .pointer A) (hl : xs.length = 64) (hr : (Kd.int .u8).C W A xs.length xs) : (execOp a.eval o).run Try.prog W = .ok (.value (arrV xs)) W := by
 obtain ⟨_, _, hr3⟩ := hr
 obtain ⟨ad, rfl, hr4⟩ := hr3 (by omega)
 have hl2 : (loadCells ad (xs.map (Value.int .u8)).length).run Try.prog W = .ok (xs.map (Value.int .u8)).toArray W := by
  refine run_loadCells_list (P := Try.prog) W ad _ (fun j v hv => ?_)
  rw [List.getElem?_map] at hv
  obtain ⟨y, hy, rfl⟩ := Option.map_eq_some_iff.mp hv
  obtain ⟨c, _, hc, hcc⟩ := hr4 j y hy
  have hc' : c = [Value.int .u8 y] := hc
  subst hc'
  have := hcc 0 (Value.int .u8 y) rfl
  simpa [Kd.int, Kd.scalar] using this
 obtain ⟨i, hi, hz⟩ := Option.map_eq_some_iff.1 (show (Try.prog.info? 76).map (·.size) = some 64 by kernel_rfl)
 have hagg : (isAgg 76).run Try.prog W = .ok true W := by
  unfold isAgg
  simp [run_underlying Try.underlying76]
 rw [List.length_map, hl] at hl2
 unfold execOp
 simp [ho, hx, Instr.loadAt, Instr.sureAddr, loadVar, hagg, sizeOf, typeInfo, hi, hz, hl2, arrV]
theorem run_neq68 {o : Oper} {a : Act} {x y : Operand} {w : World} {xs ys : List Int} {T2 : TypeId} (ho : o.op = .binOp .neq 76 x y T2) (hx : a.eval x = .agg (xs.map (Value.int .u8)).toArray) (hy : a.eval y = arrV ys) (h1 : xs.length = 64) (h2 : ys.length = 64) : (execOp a.eval o).run Try.prog w = .ok (.value (.bool (!decide (xs = ys)))) w := by
 obtain ⟨i, hi, hz⟩ := Option.map_eq_some_iff.1 (show (Try.prog.info? 5).map (·.size) = some 1 by kernel_rfl)
 have hsz : ∀ w, (sizeOf 5).run Try.prog w = .ok 1 w := fun w => by simp [sizeOf, typeInfo, hi, hz]
 have hgt := run_eqGuard_agg (P := Try.prog) w .neq 76 x y (xs.map (Value.int .u8)).toArray (ys.map (Value.int .u8)).toArray (by kernel_rfl)
 have hq := YtejecjjimggjeaaH.run_neq_arr (P := Try.prog) (w := w) Try.underlying76 Try.underlying5 hsz xs ys h1 h2
 unfold execOp
 simp only [ho, hx, hy, arrV, Sem.run_bind, hgt, hq, Result.andThen_ok, Sem.run_pure]
theorem blkLen {k : Nat} {a0 a1 a2 a3 a4 : Int} {b : List Int} (h : impl_Super_block.f k a0 a1 a2 a3 a4 = some b) : b.length = 64 := by
 unfold impl_Super_block.f at h
 obtain ⟨r_, _, h⟩ := Option.bind_eq_some_iff.mp h
 split at h
 ·rename_i h64; rw [← Option.some.inj h]; exact h64
 ·cases h
def impl_DecodeSuper.f (k : Nat) (l0 : List Int) : Option (Bool × Int × Int × Int × Int × Int) := if (l0.length : Int) = 64 then ((impl_Super_valid.f (rnum (l0.take 8)) (rnum ((l0.drop 8).take 1)) (rnum ((l0.drop 9).take 4)) (rnum ((l0.drop 13).take 4)) (rnum ((l0.drop 17).take 4))).bind fun v => if v = true then ((impl_Super_block.f k (rnum (l0.take 8)) (rnum ((l0.drop 8).take 1)) (rnum ((l0.drop 9).take 4)) (rnum ((l0.drop 13).take 4)) (rnum ((l0.drop 17).take 4))).bind fun b => if b = l0 then some (true, rnum (l0.take 8), rnum ((l0.drop 8).take 1), rnum ((l0.drop 9).take 4), rnum ((l0.drop 13).take 4), rnum ((l0.drop 17).take 4)) else some (false, 0, 0, 0, 0, 0)) else some (false, 0, 0, 0, 0, 0)) else some (false, 0, 0, 0, 0, 0)
theorem impl_DecodeSuper.mono : ∀ l0 k, LeO (impl_DecodeSuper.f k l0) (impl_DecodeSuper.f (k + 1) l0) := by
 intro l0 k
 unfold impl_DecodeSuper.f
 refine LeO.ite (LeO.bind (LeO.refl _) (fun _ => LeO.ite (LeO.bind (impl_Super_block.mono _ _ _ _ _ _) (fun _ => LeO.refl _)) (LeO.refl _))) (LeO.refl _)
set_option maxHeartbeats 8000000 in
set_option maxRecDepth 100000 in
theorem impl_DecodeSuper.calls (k : Nat) (A0 : Option Addr) (c0 : Nat) (l0 : List Int) (r1 : Bool) (r2 r3 r4 r5 r6 : Int) (w : World) (hr0 : Kd.C (Kd.int .u8) w A0 l0.length l0) (hc0 : l0.length ≤ c0) (h : impl_DecodeSuper.f k l0 = some (r1, r2, r3, r4, r5, r6)) :
  Calls Try.prog 28 #[.slice A0 l0.length c0] w fun e w' => e = .returned (.agg #[.bool r1, .int .i64 r2, .int .i64 r3, .int .i64 r4, .int .i64 r5, .int .i64 r6]) ∧ Below w.heap.size w w' := by
 have HR0 := Aside0.mk hr0
 have HC0 := Aside0.mk hc0
 have hu1 := Try.underlying56
 have hu2 := Try.underlying52
 have hmf : ∀ (fn : Fn) (first cap : Array Value) (w : World), (Instr.makeFunc fn first cap).run Try.prog w = .ok (.func fn first cap) w := fun _ _ _ _ => rfl
 clear hr0 hc0
 unfold impl_DecodeSuper.f at h
 by_cases hl : (l0.length : Int) = 64
 ·rw [if_pos hl] at h
  have HL : Aside0 (l0.length = 64) := ⟨by omega⟩
  have hlb : ((l0.length : Int) != 64) = false := by simp [hl]
  have hlb2 : ((l0.length : Int) == 64) = true := by simp [hl]
  obtain ⟨s0_, hs0_⟩ : ∃ x_, x_ = rnum (l0.take 8) := ⟨_, rfl⟩
  have HV0 := Aside0.mk hs0_
  obtain ⟨s1_, hs1_⟩ : ∃ x_, x_ = rnum ((l0.drop 8).take 1) := ⟨_, rfl⟩
  have HV1 := Aside0.mk hs1_
  obtain ⟨s2_, hs2_⟩ : ∃ x_, x_ = rnum ((l0.drop 9).take 4) := ⟨_, rfl⟩
  have HV2 := Aside0.mk hs2_
  obtain ⟨s3_, hs3_⟩ : ∃ x_, x_ = rnum ((l0.drop 13).take 4) := ⟨_, rfl⟩
  have HV3 := Aside0.mk hs3_
  obtain ⟨s4_, hs4_⟩ : ∃ x_, x_ = rnum ((l0.drop 17).take 4) := ⟨_, rfl⟩
  have HV4 := Aside0.mk hs4_
  rw [← hs0_, ← hs1_, ← hs2_, ← hs3_, ← hs4_] at h
  clear  hs0_ hs1_ hs2_ hs3_ hs4_
  obtain ⟨v_, hv_, h⟩ := Option.bind_eq_some_iff.mp h
  have AV := Aside0.mk hv_
  clear hv_ hl
  cases v_ with
  | false =>
   rw [if_neg (by decide)] at h
   simp only [Option.some.injEq, Prod.mk.injEq] at h
   obtain ⟨rfl, rfl, rfl, rfl, rfl, rfl⟩ := h
   go_enter Try.func28, Try.ntmps28
   go_wp2_with (first | ((with_reducible refine zu (N := 2) rfl ?_); refine Go.Proofs.YtejecjjimggjeaaH.alloc_arr rfl (t := 56) rfl (N := 2) rfl (zs := #[.bool false, .int .i64 0, .int .i64 0, .int .i64 0, .int .i64 0, .int .i64 0]) (n := 6) (by kernel_rfl) ?_; intro g2 hg_ w1 hA_ hb_ _; have HA2 := Aside0.mk hA_; have HB2 := Aside0.mk (hb_); have HGE2 := Aside0.mk (show w.heap.size ≤ g2 by (rw [hg_]; exact Nat.le_refl _)); clear hA_ hb_ hg_) | ((with_reducible refine zu (N := 3) rfl ?_); refine Go.Proofs.YtejecjjimggjeaaH.alloc_arr rfl (t := 52) rfl (N := 3) rfl (zs := #[.int .i64 0, .int .i64 0, .int .i64 0, .int .i64 0, .int .i64 0]) (n := 5) (by kernel_rfl) ?_; intro g3 hg_ w2 hA_ hb_ _; have HA3 := Aside0.mk hA_; have HA2b := Aside0.mk ((hb_.block _ (blk_lt HA2.out)).trans HA2.out); have HNE := Aside0.mk (show g2 ≠ g3 by (have h1_ := blk_lt HA2.out; omega)); have HB3 := Aside0.mk (zl HB2.out hb_); have HGE3 := Aside0.mk (show w.heap.size ≤ g3 by (rw [hg_]; exact HB2.out.size)); clear hA_ hb_ hg_) | ((with_reducible refine zo (f := 56) rfl ?_); refine goesL_ (some 10) rfl rfl Try.func56 (by kernel_rfl) rfl #[.slice A0 l0.length c0, .func (.func 57) #[] #[.pointer (some ⟨g3, 0, none⟩)]] rfl (by (try simp only [List.map_toArray, List.map_cons, List.map_nil]); first | done | rfl) ?_; refine (good_c w w2 HB3.out A0 c0 l0 HR0.out HC0.out 57 #[.pointer (some ⟨g3, 0, none⟩)] (enters_of Try.func57 (by kernel_rfl) rfl) (SupT w w2 g3 l0) (sup_f w w2 g3 l0 HL.out HA3.out HGE3.out) (fun o_ u_ u2_ h_ hk_ hb2_ => ⟨h_.1, (hk_.2 g3 (blk_lt h_.2.1) (fun e_ => by have h1_ := blk_lt HA3.out; omega)).trans h_.2.1, h_.2.2.1.then_ hk_ (fun k_ e_ => .inr (by omega)), h_.2.2.2.trans (hb2_.mono HB3.out.size)⟩)).mono ?_; rintro e w3 ⟨o_, rfl, ht_⟩; refine ⟨_, rfl, ?_⟩; have HS3 := Aside0.mk (show w3.heap[g3]? = some (.cells #[.int .i64 s0_, .int .i64 s1_, .int .i64 s2_, .int .i64 s3_, .int .i64 s4_] 52 (0, 0)) by (rw [HV0.out, HV1.out, HV2.out, HV3.out, HV4.out]; exact ht_.2.1)); have HA23 := Aside0.mk ((ht_.2.2.1.2 g2 (blk_lt HA2b.out) HNE.out).trans HA2b.out); have HB4 := Aside0.mk ht_.2.2.2; clear ht_))
   refine start_ (n := 11) (S := fun w' => w'.cell? ⟨g3, 0, none⟩ = some (.int .i64 s0_) ∧ w'.cell? ⟨g3, 1, none⟩ = some (.int .i64 s1_) ∧ w'.cell? ⟨g3, 2, none⟩ = some (.int .i64 s2_) ∧ w'.cell? ⟨g3, 3, none⟩ = some (.int .i64 s3_) ∧ w'.cell? ⟨g3, 4, none⟩ = some (.int .i64 s4_) ∧ (Kd.int .u8).C w' A0 l0.length l0) (ds := []) #[false, false, false, false, false, false, false, false, false, false, false] (by kernel_rfl) rfl rfl ⟨(zc (zi HS3.out) 0).trans rfl, (zc (zi HS3.out) 1).trans rfl, (zc (zi HS3.out) 2).trans rfl, (zc (zi HS3.out) 3).trans rfl, (zc (zi HS3.out) 4).trans rfl, Kd.C_below HR0.out (below_drew HB4.out)⟩ (fun hHeld => ?_)
   have HS5 := Aside0.mk (zi HS3.out); have HA25 := Aside0.mk (zi HA23.out); have HB5 := Aside0.mk (below_drew HB4.out); generalize w3.drew = w5 at HS5 HA25 HB5 hHeld ⊢
   refine take_ (i := 0) (N := some 11) (v := ?_) (a' := ?_) #[true, false, false, false, false, false, false, false, false, false, false] rfl rfl (by kernel_rfl) (fun _ _ _ h => h) (Or.inl ⟨by rfl, ?_⟩) hHeld ?_ ?_
   rotate_left
   ·rintro w' ⟨s0, s1, s2, s3, s4, s5⟩
    go_simp
    with_reducible rfl
   rotate_left
   ·simp only [Act.put, List.setIfInBounds_toArray, List.set_cons_zero, List.set_cons_succ, zv, zx]
    rfl
   refine one_ (i := 1) (N := some 12) #[true, true, false, false, false, false, false, false, false, false, false] rfl rfl (by kernel_rfl) (by decide) (fun K hK => ?_)
   refine goes_ Try.func52 (by kernel_rfl) rfl #[.agg #[.int .i64 s0_, .int .i64 s1_, .int .i64 s2_, .int .i64 s3_, .int .i64 s4_]] (by rfl) rfl rfl (by (try simp only [List.map_toArray, List.map_cons, List.map_nil]); first | done | rfl) ?_
   refine (impl_Super_valid.calls s0_ s1_ s2_ s3_ s4_ false w5 AV.out).mono ?_
   rintro e w6 ⟨rfl, hb_⟩
   refine ⟨_, rfl, ?_⟩
   have HS6 := Aside0.mk ((hb_.block _ (blk_lt HS5.out)).trans HS5.out)
   have HA26 := Aside0.mk ((hb_.block _ (blk_lt HA25.out)).trans HA25.out)
   have HB6 := Aside0.mk (zl HB5.out hb_)
   clear hb_
   refine hK.out _ _ ⟨(zc HS6.out 0).trans rfl, (zc HS6.out 1).trans rfl, (zc HS6.out 2).trans rfl, (zc HS6.out 3).trans rfl, (zc HS6.out 4).trans rfl, Kd.C_below HR0.out HB6.out⟩ (fun hHeld => ?_)
   clear hK K
   refine norm_ (a' := ?_) ?_ ?_
   rotate_left
   ·show Act.put _ (some 12) _ = _
    simp only [Act.put, List.setIfInBounds_toArray, List.set_cons_zero, List.set_cons_succ, zv, zx]
    rfl
   refine pure_ (i := 2) (N := some 13) (v := ?_) (a' := ?_) #[true, true, true, false, false, false, false, false, false, false, false] rfl rfl (by kernel_rfl) (fun _ _ _ h => h) (Or.inl ⟨by rfl, ?_⟩) ?_ ?_
   rotate_left
   ·intro w'
    go_simp
    with_reducible rfl
   rotate_left
   ·simp only [Act.put, List.setIfInBounds_toArray, List.set_cons_zero, List.set_cons_succ, zv, zx]
    rfl
   refine pure_ (i := 3) (N := some 14) (v := ?_) (a' := ?_) #[true, true, true, true, false, false, false, false, false, false, false] rfl rfl (by kernel_rfl) (fun _ _ _ h => h) (Or.inl ⟨by rfl, ?_⟩) ?_ ?_
   rotate_left
   ·intro w'
    go_simp
    with_reducible rfl
   rotate_left
   ·simp only [Act.put, List.setIfInBounds_toArray, List.set_cons_zero, List.set_cons_succ, zv, zx]
    rfl
   refine pure_ (i := 4) (N := some 15) (v := undef) (a' := ?_) #[true, true, true, true, true, false, false, false, false, false, false] rfl rfl (by kernel_rfl) (fun _ _ _ h => h) (Or.inr ⟨by rfl, rfl⟩) ?_ ?_
   rotate_left
   ·simp only [Act.put, List.setIfInBounds_toArray, List.set_cons_zero, List.set_cons_succ, zv, zx]
    rfl
   refine pure_ (i := 5) (N := some 16) (v := undef) (a' := ?_) #[true, true, true, true, true, true, false, false, false, false, false] rfl rfl (by kernel_rfl) (fun _ _ _ h => h) (Or.inr ⟨by rfl, rfl⟩) ?_ ?_
   rotate_left
   ·simp only [Act.put, List.setIfInBounds_toArray, List.set_cons_zero, List.set_cons_succ, zv, zx]
    rfl
   refine pure_ (i := 6) (N := some 17) (v := undef) (a' := ?_) #[true, true, true, true, true, true, true, false, false, false, false] rfl rfl (by kernel_rfl) (fun _ _ _ h => h) (Or.inr ⟨by rfl, rfl⟩) ?_ ?_
   rotate_left
   ·simp only [Act.put, List.setIfInBounds_toArray, List.set_cons_zero, List.set_cons_succ, zv, zx]
    rfl
   refine pure_ (i := 7) (N := some 18) (v := undef) (a' := ?_) #[true, true, true, true, true, true, true, true, false, false, false] rfl rfl (by kernel_rfl) (fun _ _ _ h => h) (Or.inr ⟨by rfl, rfl⟩) ?_ ?_
   rotate_left
   ·simp only [Act.put, List.setIfInBounds_toArray, List.set_cons_zero, List.set_cons_succ, zv, zx]
    rfl
   refine pure_ (i := 8) (N := some 19) (v := undef) (a' := ?_) #[true, true, true, true, true, true, true, true, true, false, false] rfl rfl (by kernel_rfl) (fun _ _ _ h => h) (Or.inr ⟨by rfl, rfl⟩) ?_ ?_
   rotate_left
   ·simp only [Act.put, List.setIfInBounds_toArray, List.set_cons_zero, List.set_cons_succ, zv, zx]
    rfl
   refine pure_ (i := 9) (N := some 20) (v := undef) (a' := ?_) #[true, true, true, true, true, true, true, true, true, true, false] rfl rfl (by kernel_rfl) (fun _ _ _ h => h) (Or.inr ⟨by rfl, rfl⟩) ?_ ?_
   rotate_left
   ·simp only [Act.put, List.setIfInBounds_toArray, List.set_cons_zero, List.set_cons_succ, zv, zx]
    rfl
   refine pure_ (i := 10) (N := some 21) (v := ?_) (a' := ?_) #[true, true, true, true, true, true, true, true, true, true, true] rfl rfl (by kernel_rfl) (fun _ _ _ h => h) (Or.inl ⟨by rfl, ?_⟩) ?_ ?_
   rotate_left
   ·intro w'
    go_simp
    with_reducible rfl
   rotate_left
   ·simp only [Act.put, List.setIfInBounds_toArray, List.set_cons_zero, List.set_cons_succ, zv, zx]
    rfl
   refine done_ (by kernel_rfl) ?_
   go_wp2_with (refine Go.Proofs.YtejecjjimggjeaaH.store_arr (g := g2) (cells := #[.bool false, .int .i64 0, .int .i64 0, .int .i64 0, .int .i64 0, .int .i64 0]) rfl (t := 56) rfl rfl rfl rfl HA26.out (by kernel_rfl) rfl (by kernel_rfl) ?_; intro w9 hA9_ hg9_; have HA9 := Aside0.mk hA9_; have HB9 := Aside0.mk (pw_below_grown HB6.out (some g2) HB6.out.size hg9_ (fun k_ hk_ => by injection hk_ with hk_; rw [← hk_]; exact HGE2.out)); clear hA9_ hg9_)
   refine bodyPost_ret (results_cell_row rfl _ _ g2 56 _ (0, 0) _ rfl HA9.out Try.underlying56 rfl (by kernel_rfl)) rfl ?_
   exact ⟨rfl, HB9.out⟩
  | true =>
   rw [if_pos rfl] at h
   obtain ⟨b_, hb_, h⟩ := Option.bind_eq_some_iff.mp h
   have AB := Aside0.mk hb_
   have HBL := Aside0.mk (blkLen hb_)
   clear hb_
   by_cases hbe : b_ = l0
   ·rw [if_pos hbe] at h
    simp only [Option.some.injEq, Prod.mk.injEq] at h
    obtain ⟨rfl, rfl, rfl, rfl, rfl, rfl⟩ := h
    have hbd : decide (b_ = l0) = true := decide_eq_true hbe
    have hbd2 : (b_ = l0) = True := eq_true hbe
    clear hbe
    go_enter Try.func28, Try.ntmps28
    go_wp2_with (first | ((with_reducible refine zu (N := 2) rfl ?_); refine Go.Proofs.YtejecjjimggjeaaH.alloc_arr rfl (t := 56) rfl (N := 2) rfl (zs := #[.bool false, .int .i64 0, .int .i64 0, .int .i64 0, .int .i64 0, .int .i64 0]) (n := 6) (by kernel_rfl) ?_; intro g2 hg_ w1 hA_ hb_ _; have HA2 := Aside0.mk hA_; have HB2 := Aside0.mk (hb_); have HGE2 := Aside0.mk (show w.heap.size ≤ g2 by (rw [hg_]; exact Nat.le_refl _)); clear hA_ hb_ hg_) | ((with_reducible refine zu (N := 3) rfl ?_); refine Go.Proofs.YtejecjjimggjeaaH.alloc_arr rfl (t := 52) rfl (N := 3) rfl (zs := #[.int .i64 0, .int .i64 0, .int .i64 0, .int .i64 0, .int .i64 0]) (n := 5) (by kernel_rfl) ?_; intro g3 hg_ w2 hA_ hb_ _; have HA3 := Aside0.mk hA_; have HA2b := Aside0.mk ((hb_.block _ (blk_lt HA2.out)).trans HA2.out); have HNE := Aside0.mk (show g2 ≠ g3 by (have h1_ := blk_lt HA2.out; omega)); have HB3 := Aside0.mk (zl HB2.out hb_); have HGE3 := Aside0.mk (show w.heap.size ≤ g3 by (rw [hg_]; exact HB2.out.size)); clear hA_ hb_ hg_) | ((with_reducible refine zo (f := 56) rfl ?_); refine goesL_ (some 10) rfl rfl Try.func56 (by kernel_rfl) rfl #[.slice A0 l0.length c0, .func (.func 57) #[] #[.pointer (some ⟨g3, 0, none⟩)]] rfl (by (try simp only [List.map_toArray, List.map_cons, List.map_nil]); first | done | rfl) ?_; refine (good_c w w2 HB3.out A0 c0 l0 HR0.out HC0.out 57 #[.pointer (some ⟨g3, 0, none⟩)] (enters_of Try.func57 (by kernel_rfl) rfl) (SupT w w2 g3 l0) (sup_f w w2 g3 l0 HL.out HA3.out HGE3.out) (fun o_ u_ u2_ h_ hk_ hb2_ => ⟨h_.1, (hk_.2 g3 (blk_lt h_.2.1) (fun e_ => by have h1_ := blk_lt HA3.out; omega)).trans h_.2.1, h_.2.2.1.then_ hk_ (fun k_ e_ => .inr (by omega)), h_.2.2.2.trans (hb2_.mono HB3.out.size)⟩)).mono ?_; rintro e w3 ⟨o_, rfl, ht_⟩; refine ⟨_, rfl, ?_⟩; have HS3 := Aside0.mk (show w3.heap[g3]? = some (.cells #[.int .i64 s0_, .int .i64 s1_, .int .i64 s2_, .int .i64 s3_, .int .i64 s4_] 52 (0, 0)) by (rw [HV0.out, HV1.out, HV2.out, HV3.out, HV4.out]; exact ht_.2.1)); have HA23 := Aside0.mk ((ht_.2.2.1.2 g2 (blk_lt HA2b.out) HNE.out).trans HA2b.out); have HB4 := Aside0.mk ht_.2.2.2; clear ht_))
    refine start_ (n := 11) (S := fun w' => w'.cell? ⟨g3, 0, none⟩ = some (.int .i64 s0_) ∧ w'.cell? ⟨g3, 1, none⟩ = some (.int .i64 s1_) ∧ w'.cell? ⟨g3, 2, none⟩ = some (.int .i64 s2_) ∧ w'.cell? ⟨g3, 3, none⟩ = some (.int .i64 s3_) ∧ w'.cell? ⟨g3, 4, none⟩ = some (.int .i64 s4_) ∧ (Kd.int .u8).C w' A0 l0.length l0) (ds := []) #[false, false, false, false, false, false, false, false, false, false, false] (by kernel_rfl) rfl rfl ⟨(zc (zi HS3.out) 0).trans rfl, (zc (zi HS3.out) 1).trans rfl, (zc (zi HS3.out) 2).trans rfl, (zc (zi HS3.out) 3).trans rfl, (zc (zi HS3.out) 4).trans rfl, Kd.C_below HR0.out (below_drew HB4.out)⟩ (fun hHeld => ?_)
    have HS5 := Aside0.mk (zi HS3.out); have HA25 := Aside0.mk (zi HA23.out); have HB5 := Aside0.mk (below_drew HB4.out); generalize w3.drew = w5 at HS5 HA25 HB5 hHeld ⊢
    refine take_ (i := 0) (N := some 11) (v := ?_) (a' := ?_) #[true, false, false, false, false, false, false, false, false, false, false] rfl rfl (by kernel_rfl) (fun _ _ _ h => h) (Or.inl ⟨by rfl, ?_⟩) hHeld ?_ ?_
    rotate_left
    ·rintro w' ⟨s0, s1, s2, s3, s4, s5⟩
     go_simp
     with_reducible rfl
    rotate_left
    ·simp only [Act.put, List.setIfInBounds_toArray, List.set_cons_zero, List.set_cons_succ, zv, zx]
     rfl
    refine one_ (i := 1) (N := some 12) #[true, true, false, false, false, false, false, false, false, false, false] rfl rfl (by kernel_rfl) (by decide) (fun K hK => ?_)
    refine goes_ Try.func52 (by kernel_rfl) rfl #[.agg #[.int .i64 s0_, .int .i64 s1_, .int .i64 s2_, .int .i64 s3_, .int .i64 s4_]] (by rfl) rfl rfl (by (try simp only [List.map_toArray, List.map_cons, List.map_nil]); first | done | rfl) ?_
    refine (impl_Super_valid.calls s0_ s1_ s2_ s3_ s4_ true w5 AV.out).mono ?_
    rintro e w6 ⟨rfl, hb_⟩
    refine ⟨_, rfl, ?_⟩
    have HS6 := Aside0.mk ((hb_.block _ (blk_lt HS5.out)).trans HS5.out)
    have HA26 := Aside0.mk ((hb_.block _ (blk_lt HA25.out)).trans HA25.out)
    have HB6 := Aside0.mk (zl HB5.out hb_)
    clear hb_
    refine hK.out _ _ ⟨(zc HS6.out 0).trans rfl, (zc HS6.out 1).trans rfl, (zc HS6.out 2).trans rfl, (zc HS6.out 3).trans rfl, (zc HS6.out 4).trans rfl, Kd.C_below HR0.out HB6.out⟩ (fun hHeld => ?_)
    clear hK K
    refine norm_ (a' := ?_) ?_ ?_
    rotate_left
    ·show Act.put _ (some 12) _ = _
     simp only [Act.put, List.setIfInBounds_toArray, List.set_cons_zero, List.set_cons_succ, zv, zx]
     rfl
    refine pure_ (i := 2) (N := some 13) (v := ?_) (a' := ?_) #[true, true, true, false, false, false, false, false, false, false, false] rfl rfl (by kernel_rfl) (fun _ _ _ h => h) (Or.inl ⟨by rfl, ?_⟩) ?_ ?_
    rotate_left
    ·intro w'
     go_simp
     with_reducible rfl
    rotate_left
    ·simp only [Act.put, List.setIfInBounds_toArray, List.set_cons_zero, List.set_cons_succ, zv, zx]
     rfl
    refine pure_ (i := 3) (N := some 14) (v := ?_) (a' := ?_) #[true, true, true, true, false, false, false, false, false, false, false] rfl rfl (by kernel_rfl) (fun _ _ _ h => h) (Or.inl ⟨by rfl, ?_⟩) ?_ ?_
    rotate_left
    ·intro w'
     go_simp
     with_reducible rfl
    rotate_left
    ·simp only [Act.put, List.setIfInBounds_toArray, List.set_cons_zero, List.set_cons_succ, zv, zx]
     rfl
    refine pure_ (i := 6) (N := some 17) (v := ?_) (a' := ?_) #[true, true, true, true, false, false, true, false, false, false, false] rfl rfl (by kernel_rfl) (fun _ _ _ h => h) (Or.inl ⟨by rfl, ?_⟩) ?_ ?_
    rotate_left
    ·intro w'
     go_simp
     with_reducible rfl
    rotate_left
    ·simp only [Act.put, List.setIfInBounds_toArray, List.set_cons_zero, List.set_cons_succ, zv, zx]
     rfl
    refine pure_ (i := 7) (N := some 18) (v := .pointer A0) (a' := ?_) #[true, true, true, true, false, false, true, true, false, false, false] rfl rfl (by kernel_rfl) (fun _ _ _ h => h) (Or.inl ⟨by rfl, ?_⟩) ?_ ?_
    ·intro w'
     exact run_toarr (by rfl) (by rfl) (by have := HL.out; omega)
    rotate_left
    ·simp only [Act.put, List.setIfInBounds_toArray, List.set_cons_zero, List.set_cons_succ, zv, zx]
     rfl
    refine take_ (i := 4) (N := some 15) (v := ?_) (a' := ?_) #[true, true, true, true, true, false, true, true, false, false, false] rfl rfl (by kernel_rfl) (fun _ _ _ h => h) (Or.inl ⟨by rfl, ?_⟩) hHeld ?_ ?_
    rotate_left
    ·rintro w' ⟨s0, s1, s2, s3, s4, s5⟩
     go_simp
     with_reducible rfl
    rotate_left
    ·simp only [Act.put, List.setIfInBounds_toArray, List.set_cons_zero, List.set_cons_succ, zv, zx]
     rfl
    refine take_ (i := 8) (N := some 19) (v := arrV l0) (a' := ?_) #[true, true, true, true, true, false, true, true, true, false, false] rfl rfl (by kernel_rfl) (fun _ _ _ h => h) (Or.inl ⟨by rfl, ?_⟩) hHeld ?_ ?_
    ·rintro w' ⟨s0, s1, s2, s3, s4, s5⟩
     exact run_ldC (by rfl) (by rfl) HL.out s5
    rotate_left
    ·simp only [Act.put, List.setIfInBounds_toArray, List.set_cons_zero, List.set_cons_succ, zv, zx]
     rfl
    refine one_ (i := 5) (N := some 16) #[true, true, true, true, true, true, true, true, true, false, false] rfl rfl (by kernel_rfl) (by decide) (fun K hK => ?_)
    refine goes_ Try.func53 (by kernel_rfl) rfl #[.agg #[.int .i64 s0_, .int .i64 s1_, .int .i64 s2_, .int .i64 s3_, .int .i64 s4_]] (by rfl) rfl rfl (by (try simp only [List.map_toArray, List.map_cons, List.map_nil]); first | done | rfl) ?_
    refine (impl_Super_block.calls k s0_ s1_ s2_ s3_ s4_ b_ w6 AB.out).mono ?_
    rintro e w7 ⟨rfl, hb_⟩
    refine ⟨_, rfl, ?_⟩
    have HS7 := Aside0.mk ((hb_.block _ (blk_lt HS6.out)).trans HS6.out)
    have HA27 := Aside0.mk ((hb_.block _ (blk_lt HA26.out)).trans HA26.out)
    have HB7 := Aside0.mk (zl HB6.out hb_)
    clear hb_
    refine hK.out _ _ ⟨(zc HS7.out 0).trans rfl, (zc HS7.out 1).trans rfl, (zc HS7.out 2).trans rfl, (zc HS7.out 3).trans rfl, (zc HS7.out 4).trans rfl, Kd.C_below HR0.out HB7.out⟩ (fun hHeld => ?_)
    clear hK K
    refine norm_ (a' := ?_) ?_ ?_
    rotate_left
    ·show Act.put _ (some 16) _ = _
     simp only [Act.put, List.setIfInBounds_toArray, List.set_cons_zero, List.set_cons_succ, zv, zx]
     rfl
    refine pure_ (i := 9) (N := some 20) (v := .bool (!decide (b_ = l0))) (a' := ?_) #[true, true, true, true, true, true, true, true, true, true, false] rfl rfl (by kernel_rfl) (fun _ _ _ h => h) (Or.inl ⟨by rfl, ?_⟩) ?_ ?_
    ·intro w'
     exact run_neq68 (by rfl) (by rfl) (by rfl) HBL.out HL.out
    rotate_left
    ·simp only [Act.put, List.setIfInBounds_toArray, List.set_cons_zero, List.set_cons_succ, zv, zx]
     rfl
    refine pure_ (i := 10) (N := some 21) (v := ?_) (a' := ?_) #[true, true, true, true, true, true, true, true, true, true, true] rfl rfl (by kernel_rfl) (fun _ _ _ h => h) (Or.inl ⟨by rfl, ?_⟩) ?_ ?_
    rotate_left
    ·intro w'
     go_simp
     with_reducible rfl
    rotate_left
    ·simp only [Act.put, List.setIfInBounds_toArray, List.set_cons_zero, List.set_cons_succ, zv, zx]
     rfl
    refine done_ (by kernel_rfl) ?_
    have hcc0 : w7.cell? ⟨g3, 0, none⟩ = some (.int .i64 s0_) := (zc HS7.out 0).trans rfl
    have hcc1 : w7.cell? ⟨g3, 1, none⟩ = some (.int .i64 s1_) := (zc HS7.out 1).trans rfl
    have hcc2 : w7.cell? ⟨g3, 2, none⟩ = some (.int .i64 s2_) := (zc HS7.out 2).trans rfl
    have hcc3 : w7.cell? ⟨g3, 3, none⟩ = some (.int .i64 s3_) := (zc HS7.out 3).trans rfl
    have hcc4 : w7.cell? ⟨g3, 4, none⟩ = some (.int .i64 s4_) := (zc HS7.out 4).trans rfl
    go_wp2_with (refine Go.Proofs.YtejecjjimggjeaaH.store_arr (g := g2) (cells := #[.bool true, .int .i64 s0_, .int .i64 s1_, .int .i64 s2_, .int .i64 s3_, .int .i64 s4_]) rfl (t := 56) rfl rfl rfl rfl HA27.out (by kernel_rfl) rfl (by kernel_rfl) ?_; intro w9 hA9_ hg9_; have HA9 := Aside0.mk hA9_; have HB9 := Aside0.mk (pw_below_grown HB7.out (some g2) HB7.out.size hg9_ (fun k_ hk_ => by injection hk_ with hk_; rw [← hk_]; exact HGE2.out)); clear hA9_ hg9_)
    refine bodyPost_ret (results_cell_row rfl _ _ g2 56 _ (0, 0) _ rfl HA9.out Try.underlying56 rfl (by kernel_rfl)) rfl ?_
    exact ⟨rfl, HB9.out⟩
   ·rw [if_neg hbe] at h
    simp only [Option.some.injEq, Prod.mk.injEq] at h
    obtain ⟨rfl, rfl, rfl, rfl, rfl, rfl⟩ := h
    have hbd : decide (b_ = l0) = false := decide_eq_false hbe
    have hbd2 : (b_ = l0) = False := eq_false hbe
    clear hbe
    go_enter Try.func28, Try.ntmps28
    go_wp2_with (first | ((with_reducible refine zu (N := 2) rfl ?_); refine Go.Proofs.YtejecjjimggjeaaH.alloc_arr rfl (t := 56) rfl (N := 2) rfl (zs := #[.bool false, .int .i64 0, .int .i64 0, .int .i64 0, .int .i64 0, .int .i64 0]) (n := 6) (by kernel_rfl) ?_; intro g2 hg_ w1 hA_ hb_ _; have HA2 := Aside0.mk hA_; have HB2 := Aside0.mk (hb_); have HGE2 := Aside0.mk (show w.heap.size ≤ g2 by (rw [hg_]; exact Nat.le_refl _)); clear hA_ hb_ hg_) | ((with_reducible refine zu (N := 3) rfl ?_); refine Go.Proofs.YtejecjjimggjeaaH.alloc_arr rfl (t := 52) rfl (N := 3) rfl (zs := #[.int .i64 0, .int .i64 0, .int .i64 0, .int .i64 0, .int .i64 0]) (n := 5) (by kernel_rfl) ?_; intro g3 hg_ w2 hA_ hb_ _; have HA3 := Aside0.mk hA_; have HA2b := Aside0.mk ((hb_.block _ (blk_lt HA2.out)).trans HA2.out); have HNE := Aside0.mk (show g2 ≠ g3 by (have h1_ := blk_lt HA2.out; omega)); have HB3 := Aside0.mk (zl HB2.out hb_); have HGE3 := Aside0.mk (show w.heap.size ≤ g3 by (rw [hg_]; exact HB2.out.size)); clear hA_ hb_ hg_) | ((with_reducible refine zo (f := 56) rfl ?_); refine goesL_ (some 10) rfl rfl Try.func56 (by kernel_rfl) rfl #[.slice A0 l0.length c0, .func (.func 57) #[] #[.pointer (some ⟨g3, 0, none⟩)]] rfl (by (try simp only [List.map_toArray, List.map_cons, List.map_nil]); first | done | rfl) ?_; refine (good_c w w2 HB3.out A0 c0 l0 HR0.out HC0.out 57 #[.pointer (some ⟨g3, 0, none⟩)] (enters_of Try.func57 (by kernel_rfl) rfl) (SupT w w2 g3 l0) (sup_f w w2 g3 l0 HL.out HA3.out HGE3.out) (fun o_ u_ u2_ h_ hk_ hb2_ => ⟨h_.1, (hk_.2 g3 (blk_lt h_.2.1) (fun e_ => by have h1_ := blk_lt HA3.out; omega)).trans h_.2.1, h_.2.2.1.then_ hk_ (fun k_ e_ => .inr (by omega)), h_.2.2.2.trans (hb2_.mono HB3.out.size)⟩)).mono ?_; rintro e w3 ⟨o_, rfl, ht_⟩; refine ⟨_, rfl, ?_⟩; have HS3 := Aside0.mk (show w3.heap[g3]? = some (.cells #[.int .i64 s0_, .int .i64 s1_, .int .i64 s2_, .int .i64 s3_, .int .i64 s4_] 52 (0, 0)) by (rw [HV0.out, HV1.out, HV2.out, HV3.out, HV4.out]; exact ht_.2.1)); have HA23 := Aside0.mk ((ht_.2.2.1.2 g2 (blk_lt HA2b.out) HNE.out).trans HA2b.out); have HB4 := Aside0.mk ht_.2.2.2; clear ht_))
    refine start_ (n := 11) (S := fun w' => w'.cell? ⟨g3, 0, none⟩ = some (.int .i64 s0_) ∧ w'.cell? ⟨g3, 1, none⟩ = some (.int .i64 s1_) ∧ w'.cell? ⟨g3, 2, none⟩ = some (.int .i64 s2_) ∧ w'.cell? ⟨g3, 3, none⟩ = some (.int .i64 s3_) ∧ w'.cell? ⟨g3, 4, none⟩ = some (.int .i64 s4_) ∧ (Kd.int .u8).C w' A0 l0.length l0) (ds := []) #[false, false, false, false, false, false, false, false, false, false, false] (by kernel_rfl) rfl rfl ⟨(zc (zi HS3.out) 0).trans rfl, (zc (zi HS3.out) 1).trans rfl, (zc (zi HS3.out) 2).trans rfl, (zc (zi HS3.out) 3).trans rfl, (zc (zi HS3.out) 4).trans rfl, Kd.C_below HR0.out (below_drew HB4.out)⟩ (fun hHeld => ?_)
    have HS5 := Aside0.mk (zi HS3.out); have HA25 := Aside0.mk (zi HA23.out); have HB5 := Aside0.mk (below_drew HB4.out); generalize w3.drew = w5 at HS5 HA25 HB5 hHeld ⊢
    refine take_ (i := 0) (N := some 11) (v := ?_) (a' := ?_) #[true, false, false, false, false, false, false, false, false, false, false] rfl rfl (by kernel_rfl) (fun _ _ _ h => h) (Or.inl ⟨by rfl, ?_⟩) hHeld ?_ ?_
    rotate_left
    ·rintro w' ⟨s0, s1, s2, s3, s4, s5⟩
     go_simp
     with_reducible rfl
    rotate_left
    ·simp only [Act.put, List.setIfInBounds_toArray, List.set_cons_zero, List.set_cons_succ, zv, zx]
     rfl
    refine one_ (i := 1) (N := some 12) #[true, true, false, false, false, false, false, false, false, false, false] rfl rfl (by kernel_rfl) (by decide) (fun K hK => ?_)
    refine goes_ Try.func52 (by kernel_rfl) rfl #[.agg #[.int .i64 s0_, .int .i64 s1_, .int .i64 s2_, .int .i64 s3_, .int .i64 s4_]] (by rfl) rfl rfl (by (try simp only [List.map_toArray, List.map_cons, List.map_nil]); first | done | rfl) ?_
    refine (impl_Super_valid.calls s0_ s1_ s2_ s3_ s4_ true w5 AV.out).mono ?_
    rintro e w6 ⟨rfl, hb_⟩
    refine ⟨_, rfl, ?_⟩
    have HS6 := Aside0.mk ((hb_.block _ (blk_lt HS5.out)).trans HS5.out)
    have HA26 := Aside0.mk ((hb_.block _ (blk_lt HA25.out)).trans HA25.out)
    have HB6 := Aside0.mk (zl HB5.out hb_)
    clear hb_
    refine hK.out _ _ ⟨(zc HS6.out 0).trans rfl, (zc HS6.out 1).trans rfl, (zc HS6.out 2).trans rfl, (zc HS6.out 3).trans rfl, (zc HS6.out 4).trans rfl, Kd.C_below HR0.out HB6.out⟩ (fun hHeld => ?_)
    clear hK K
    refine norm_ (a' := ?_) ?_ ?_
    rotate_left
    ·show Act.put _ (some 12) _ = _
     simp only [Act.put, List.setIfInBounds_toArray, List.set_cons_zero, List.set_cons_succ, zv, zx]
     rfl
    refine pure_ (i := 2) (N := some 13) (v := ?_) (a' := ?_) #[true, true, true, false, false, false, false, false, false, false, false] rfl rfl (by kernel_rfl) (fun _ _ _ h => h) (Or.inl ⟨by rfl, ?_⟩) ?_ ?_
    rotate_left
    ·intro w'
     go_simp
     with_reducible rfl
    rotate_left
    ·simp only [Act.put, List.setIfInBounds_toArray, List.set_cons_zero, List.set_cons_succ, zv, zx]
     rfl
    refine pure_ (i := 3) (N := some 14) (v := ?_) (a' := ?_) #[true, true, true, true, false, false, false, false, false, false, false] rfl rfl (by kernel_rfl) (fun _ _ _ h => h) (Or.inl ⟨by rfl, ?_⟩) ?_ ?_
    rotate_left
    ·intro w'
     go_simp
     with_reducible rfl
    rotate_left
    ·simp only [Act.put, List.setIfInBounds_toArray, List.set_cons_zero, List.set_cons_succ, zv, zx]
     rfl
    refine pure_ (i := 6) (N := some 17) (v := ?_) (a' := ?_) #[true, true, true, true, false, false, true, false, false, false, false] rfl rfl (by kernel_rfl) (fun _ _ _ h => h) (Or.inl ⟨by rfl, ?_⟩) ?_ ?_
    rotate_left
    ·intro w'
     go_simp
     with_reducible rfl
    rotate_left
    ·simp only [Act.put, List.setIfInBounds_toArray, List.set_cons_zero, List.set_cons_succ, zv, zx]
     rfl
    refine pure_ (i := 7) (N := some 18) (v := .pointer A0) (a' := ?_) #[true, true, true, true, false, false, true, true, false, false, false] rfl rfl (by kernel_rfl) (fun _ _ _ h => h) (Or.inl ⟨by rfl, ?_⟩) ?_ ?_
    ·intro w'
     exact run_toarr (by rfl) (by rfl) (by have := HL.out; omega)
    rotate_left
    ·simp only [Act.put, List.setIfInBounds_toArray, List.set_cons_zero, List.set_cons_succ, zv, zx]
     rfl
    refine take_ (i := 4) (N := some 15) (v := ?_) (a' := ?_) #[true, true, true, true, true, false, true, true, false, false, false] rfl rfl (by kernel_rfl) (fun _ _ _ h => h) (Or.inl ⟨by rfl, ?_⟩) hHeld ?_ ?_
    rotate_left
    ·rintro w' ⟨s0, s1, s2, s3, s4, s5⟩
     go_simp
     with_reducible rfl
    rotate_left
    ·simp only [Act.put, List.setIfInBounds_toArray, List.set_cons_zero, List.set_cons_succ, zv, zx]
     rfl
    refine take_ (i := 8) (N := some 19) (v := arrV l0) (a' := ?_) #[true, true, true, true, true, false, true, true, true, false, false] rfl rfl (by kernel_rfl) (fun _ _ _ h => h) (Or.inl ⟨by rfl, ?_⟩) hHeld ?_ ?_
    ·rintro w' ⟨s0, s1, s2, s3, s4, s5⟩
     exact run_ldC (by rfl) (by rfl) HL.out s5
    rotate_left
    ·simp only [Act.put, List.setIfInBounds_toArray, List.set_cons_zero, List.set_cons_succ, zv, zx]
     rfl
    refine one_ (i := 5) (N := some 16) #[true, true, true, true, true, true, true, true, true, false, false] rfl rfl (by kernel_rfl) (by decide) (fun K hK => ?_)
    refine goes_ Try.func53 (by kernel_rfl) rfl #[.agg #[.int .i64 s0_, .int .i64 s1_, .int .i64 s2_, .int .i64 s3_, .int .i64 s4_]] (by rfl) rfl rfl (by (try simp only [List.map_toArray, List.map_cons, List.map_nil]); first | done | rfl) ?_
    refine (impl_Super_block.calls k s0_ s1_ s2_ s3_ s4_ b_ w6 AB.out).mono ?_
    rintro e w7 ⟨rfl, hb_⟩
    refine ⟨_, rfl, ?_⟩
    have HS7 := Aside0.mk ((hb_.block _ (blk_lt HS6.out)).trans HS6.out)
    have HA27 := Aside0.mk ((hb_.block _ (blk_lt HA26.out)).trans HA26.out)
    have HB7 := Aside0.mk (zl HB6.out hb_)
    clear hb_
    refine hK.out _ _ ⟨(zc HS7.out 0).trans rfl, (zc HS7.out 1).trans rfl, (zc HS7.out 2).trans rfl, (zc HS7.out 3).trans rfl, (zc HS7.out 4).trans rfl, Kd.C_below HR0.out HB7.out⟩ (fun hHeld => ?_)
    clear hK K
    refine norm_ (a' := ?_) ?_ ?_
    rotate_left
    ·show Act.put _ (some 16) _ = _
     simp only [Act.put, List.setIfInBounds_toArray, List.set_cons_zero, List.set_cons_succ, zv, zx]
     rfl
    refine pure_ (i := 9) (N := some 20) (v := .bool (!decide (b_ = l0))) (a' := ?_) #[true, true, true, true, true, true, true, true, true, true, false] rfl rfl (by kernel_rfl) (fun _ _ _ h => h) (Or.inl ⟨by rfl, ?_⟩) ?_ ?_
    ·intro w'
     exact run_neq68 (by rfl) (by rfl) (by rfl) HBL.out HL.out
    rotate_left
    ·simp only [Act.put, List.setIfInBounds_toArray, List.set_cons_zero, List.set_cons_succ, zv, zx]
     rfl
    refine pure_ (i := 10) (N := some 21) (v := ?_) (a' := ?_) #[true, true, true, true, true, true, true, true, true, true, true] rfl rfl (by kernel_rfl) (fun _ _ _ h => h) (Or.inl ⟨by rfl, ?_⟩) ?_ ?_
    rotate_left
    ·intro w'
     go_simp
     with_reducible rfl
    rotate_left
    ·simp only [Act.put, List.setIfInBounds_toArray, List.set_cons_zero, List.set_cons_succ, zv, zx]
     rfl
    refine done_ (by kernel_rfl) ?_
    go_wp2_with (refine Go.Proofs.YtejecjjimggjeaaH.store_arr (g := g2) (cells := #[.bool false, .int .i64 0, .int .i64 0, .int .i64 0, .int .i64 0, .int .i64 0]) rfl (t := 56) rfl rfl rfl rfl HA27.out (by kernel_rfl) rfl (by kernel_rfl) ?_; intro w9 hA9_ hg9_; have HA9 := Aside0.mk hA9_; have HB9 := Aside0.mk (pw_below_grown HB7.out (some g2) HB7.out.size hg9_ (fun k_ hk_ => by injection hk_ with hk_; rw [← hk_]; exact HGE2.out)); clear hA9_ hg9_)
    refine bodyPost_ret (results_cell_row rfl _ _ g2 56 _ (0, 0) _ rfl HA9.out Try.underlying56 rfl (by kernel_rfl)) rfl ?_
    exact ⟨rfl, HB9.out⟩
 ·rw [if_neg hl] at h
  simp only [Option.some.injEq, Prod.mk.injEq] at h
  obtain ⟨rfl, rfl, rfl, rfl, rfl, rfl⟩ := h
  have hlb : ((l0.length : Int) != 64) = true := by simp [hl]
  clear hl
  go_enter Try.func28, Try.ntmps28
  go_wp2_with (first | ((with_reducible refine zu (N := 2) rfl ?_); refine Go.Proofs.YtejecjjimggjeaaH.alloc_arr rfl (t := 56) rfl (N := 2) rfl (zs := #[.bool false, .int .i64 0, .int .i64 0, .int .i64 0, .int .i64 0, .int .i64 0]) (n := 6) (by kernel_rfl) ?_; intro g2 hg_ w1 hA_ hb_ _; have HA2 := Aside0.mk hA_; have HB2 := Aside0.mk (hb_); have HGE2 := Aside0.mk (show w.heap.size ≤ g2 by (rw [hg_]; exact Nat.le_refl _)); clear hA_ hb_ hg_) | ((with_reducible refine zu (N := 3) rfl ?_); refine Go.Proofs.YtejecjjimggjeaaH.alloc_arr rfl (t := 52) rfl (N := 3) rfl (zs := #[.int .i64 0, .int .i64 0, .int .i64 0, .int .i64 0, .int .i64 0]) (n := 5) (by kernel_rfl) ?_; intro g3 hg_ w2 hA_ hb_ _; have HA3 := Aside0.mk hA_; have HA2b := Aside0.mk ((hb_.block _ (blk_lt HA2.out)).trans HA2.out); have HNE := Aside0.mk (show g2 ≠ g3 by (have h1_ := blk_lt HA2.out; omega)); have HB3 := Aside0.mk (zl HB2.out hb_); have HGE3 := Aside0.mk (show w.heap.size ≤ g3 by (rw [hg_]; exact HB2.out.size)); clear hA_ hb_ hg_) | (refine Go.Proofs.YtejecjjimggjeaaH.store_arr (g := g2) (cells := #[.bool false, .int .i64 0, .int .i64 0, .int .i64 0, .int .i64 0, .int .i64 0]) rfl (t := 56) rfl rfl rfl rfl HA2b.out (by kernel_rfl) rfl (by kernel_rfl) ?_; intro w9 hA9_ hg9_; have HA9 := Aside0.mk hA9_; have HB9 := Aside0.mk (pw_below_grown HB3.out (some g2) HB3.out.size hg9_ (fun k_ hk_ => by injection hk_ with hk_; rw [← hk_]; exact HGE2.out)); clear hA9_ hg9_))
  refine bodyPost_ret (results_cell_row rfl _ _ g2 56 _ (0, 0) _ rfl HA9.out Try.underlying56 rfl (by kernel_rfl)) rfl ?_
  exact ⟨rfl, HB9.out⟩

def gosem_cut.f (k : Nat) (l0 l1 : List Int) (a2 : Int) : Option (Bool × Int × Int × Int × Int × Int) := if 0 ≤ a2 then (if a2 ≤ (l0.length : Int) then (if a2 ≤ (l1.length : Int) then (if l0.length ≤ 64 ∧ l1.length ≤ 64 then impl_DecodeSuper.f k (bytesOf (strOfNums (l0.take a2.toNat) ++ strOfNums (l1.drop a2.toNat))) else none) else none) else none) else none
theorem gosem_cut.mono : ∀ a0 a1 a2 k, LeO (gosem_cut.f k a0 a1 a2) (gosem_cut.f (k + 1) a0 a1 a2) := by
 intro a0 a1 a2 k
 unfold gosem_cut.f
 repeat' first
  | exact impl_DecodeSuper.mono _ _
  | exact LeO.none _
  | refine LeO.ite ?_ ?_
theorem mix_info : ∃ i, Try.prog.info? 5 = some i ∧ i.size = 1 := by
 obtain ⟨i0, hi0, hz0⟩ := Option.map_eq_some_iff.1 (show (Try.prog.info? 5).map (·.size) = some 1 by kernel_rfl)
 exact ⟨i0, hi0, hz0⟩
theorem mix_open {k : Nat} {l0 l1 : List Int} {a2 : Int} {r : Bool × Int × Int × Int × Int × Int} (h : gosem_cut.f k l0 l1 a2 = some r) (A0 A1 : Option Addr) (c0 c1 : Nat) (hc0 : l0.length ≤ c0) (hc1 : l1.length ≤ c1) :
  ∃ (L1 L2 : List Int) (A2 : Option Addr) (c2 : Nat) (y : ByteArray), (∀ W : World, (Instr.slice 22 (.slice A0 l0.length c0) none (some (.int .i64 a2)) none).run Try.prog W = .ok (.slice A0 L1.length c0) W) ∧ (∀ W : World, (Instr.slice 22 (.slice A1 l1.length c1) (some (.int .i64 a2)) none none).run Try.prog W = .ok (.slice A2 L2.length c2) W) ∧ Aside0 (∀ w : World, Kd.C (Kd.int .u8) w A0 l0.length l0 → Kd.C (Kd.int .u8) w A0 L1.length L1) ∧ Aside0 (∀ w : World, Kd.C (Kd.int .u8) w A1 l1.length l1 → Kd.C (Kd.int .u8) w A2 L2.length L2) ∧ Aside0 (strOfNums L1 ++ strOfNums L2 = y) ∧ Aside0 (y.size ≤ 9223372036854775807) ∧ Aside0 (impl_DecodeSuper.f k (bytesOf y) = some r) := by
 unfold gosem_cut.f at h
 split at h
 ·split at h
  ·split at h
   ·split at h
    ·rename_i h0 h1 h2 h3
     obtain ⟨i0, hi0, hz0⟩ := mix_info
     obtain ⟨hs1, hr1, _⟩ := print_take_of (P := Try.prog) (Value.int .u8) 0 22 5 .i64 Try.underlying22 hi0 hz0 A0 c0 l0 a2 h0 h1 hc0
     obtain ⟨A2, hs2, hr2, _⟩ := print_drop_of (P := Try.prog) (Value.int .u8) 0 22 5 .i64 Try.underlying22 hi0 hz0 A1 c1 l1 a2 h0 h2 hc1
     refine ⟨_, _, A2, _, _, hs1, hs2, ⟨fun w hc => Kd.C_of_reads (d := (0 : Int)) (h1 := fun _ => rfl) (hr1 w (Kd.reads_of_C hc))⟩, ⟨fun w hc => Kd.C_of_reads (d := (0 : Int)) (h1 := fun _ => rfl) (hr2 w (Kd.reads_of_C hc))⟩, ⟨rfl⟩, ⟨?_⟩, ⟨h⟩⟩
     rw [ByteArray.size_append, strOfNums_size, strOfNums_size, List.length_take, List.length_drop]
     omega
    ·cases h
   ·cases h
  ·cases h
 ·cases h
theorem mix_decode (k : Nat) (W : World) (y : ByteArray) (r1 : Bool) (r2 r3 r4 r5 r6 : Int) (hs : y.size ≤ 9223372036854775807) (h : impl_DecodeSuper.f k (bytesOf y) = some (r1, r2, r3, r4, r5, r6)) :
  Calls Try.prog 28 #[.slice (some ⟨W.heap.size, 0, none⟩) y.size (grownCap W y.size 0 5)] (Lib.bytesWorld W 5 y) fun e w' => e = .returned (.agg #[.bool r1, .int .i64 r2, .int .i64 r3, .int .i64 r4, .int .i64 r5, .int .i64 r6]) ∧ Below W.heap.size W w' := by
 have hl : (bytesOf y).length = y.size := bytesOf_length _
 have h1 := Kd.C_of_reads (enc := Value.int .u8) (d := (0 : Int)) (h1 := fun _ => rfl) (bytes_reads W 5 y hs)
 have hb := bytes_below (Below.refl W.heap.size W) (Nat.le_refl _) 5 y
 have := impl_DecodeSuper.calls k (some ⟨W.heap.size, 0, none⟩) (grownCap W y.size 0 5) (bytesOf y) r1 r2 r3 r4 r5 r6 (Lib.bytesWorld W 5 y) (by rw [hl]; exact h1) (by rw [hl]; exact grownCap_ge _ _ _ _) h
 rw [hl] at this
 exact this.mono fun e w' ⟨he, hb2⟩ => ⟨he, zl hb hb2⟩

end Go.Proofs.Ytejecjjimggjeaa.GFnTornSuper
