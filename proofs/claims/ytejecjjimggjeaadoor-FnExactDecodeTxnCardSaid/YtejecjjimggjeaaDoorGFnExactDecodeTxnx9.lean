/- Written by give.py, a program of this session, that runs the kit's print and lays contracts proved by hand beside it. -/
import Derived.Lib.Bytes
import Derived.Recover
import Derived.WalkLawsBesides
import Derived.Test.YtejecjjimggjeaaDoorGFnExactDecodeTxnx0
import Derived.Test.YtejecjjimggjeaaDoorGFnExactDecodeTxnx8
namespace Go.Proofs.YtejecjjimggjeaaDoor.GFnExactDecodeTxn
open Go.RowKit Go.Proofs.YtejecjjimggjeaaDoorW.PrintWords Go.Proofs.YtejecjjimggjeaaDoorW.PrintLast Go.Proofs.YtejecjjimggjeaaDoorW.PrintMore
attribute [local go_sem] max2_int min2_int max_two min_two max_three min_three max_four min_four
attribute [local go_sem high] Go.Proofs.YtejecjjimggjeaaDoorH.str_leq Go.Proofs.YtejecjjimggjeaaDoorH.str_geq Go.Proofs.YtejecjjimggjeaaDoorH.str_gtr   -- for this text's walks alone
set_option linter.unusedVariables false
set_option linter.unusedSimpArgs false

structure Rdr (W0 W : World) (gr : Nat) (l : List Int) : Prop where
 cell : ∃ A c, W.heap[gr]? = some (.cells #[.slice A l.length c] 91 (0, 0)) ∧ Kd.C (Kd.int .u8) W0 A l.length l ∧ l.length ≤ c
 ge : W0.heap.size ≤ gr
 bel : Below W0.heap.size W0 W
theorem infoSz8_ : ∃ i, Tryd.prog.info? 5 = some i ∧ i.size = 1 := by
 obtain ⟨i0, hi0, hz0⟩ := Option.map_eq_some_iff.1 (show (Tryd.prog.info? 5).map (·.size) = some 1 by kernel_rfl)
 exact ⟨i0, hi0, hz0⟩
set_option maxHeartbeats 4000000 in
set_option maxRecDepth 100000 in
theorem take_c (W0 W : World) (gr : Nat) (l : List Int) (n : Nat) (h : Rdr W0 W gr l) (hn : n ≤ l.length) (hl : l.length ≤ 281474976710656) :
  Calls Tryd.prog 53 #[.pointer (some ⟨gr, 0, none⟩), .int .i64 n] W fun e w' => ∃ A c, e = .returned (.slice A n c) ∧ Kd.C (Kd.int .u8) W0 A n (l.take n) ∧ n ≤ c ∧ Rdr W0 w' gr (l.drop n) ∧ Kept W w' (fun k => k = gr) := by
 obtain ⟨A, c, hc, hr, hlc⟩ := h.cell
 obtain ⟨i0, hi0, hz0⟩ := infoSz8_
 have hcut1 := cut_to (P := Tryd.prog) 22 5 .i64 Tryd.underlying22 hi0 A l.length c (n : Int) (by omega) (by omega) hlc
 have hcut2 := cut_from (P := Tryd.prog) 22 5 .i64 Tryd.underlying22 hi0 1 hz0 A l.length c (n : Int) (by omega) (by omega)
 rw [Int.toNat_natCast] at hcut1 hcut2
 obtain ⟨A2, hA2⟩ : ∃ A2, A2 = (if c = n then A else A.map (·.add (n * 1))) := ⟨_, rfl⟩
 rw [← hA2] at hcut2
 have HCA2 := Aside0.mk hA2
 have hgt : decide ((l.length : Int) < (n : Int)) = false := decide_eq_false (by omega)
 have hgt2 : ((l.length : Int) < (n : Int)) = False := eq_false (by omega)
 have hgt3 : (l.length < n) = False := eq_false (by omega)
 have hcell : W.cell? ⟨gr, 0, none⟩ = some (.slice A l.length c) := (zi hc 0).trans rfl
 have hfz := zd hc 0
 have HC := Aside0.mk hc
 have HH := Aside0.mk h
 have HR := Aside0.mk hr
 have HLC := Aside0.mk hlc
 have HN := Aside0.mk hn
 clear hc h hr hlc hn hA2 hi0 hz0
 go_enter Tryd.func53, Tryd.ntmps53
 go_wp2
 go_ret
 refine ⟨A, c, rfl, ?_, by have := HLC.out; have := HN.out; omega, ⟨⟨A2, c - n, ?_, ?_, ?_⟩, HH.out.ge, HH.out.bel.setCell (p := ⟨gr, 0, none⟩) HH.out.ge _⟩, Kept.setCell (p := ⟨gr, 0, none⟩) (Kept.refl W (fun k => k = gr)) (.inl rfl) _⟩
 ·have h1 := Kd.C_take HR.out HN.out
  rwa [show (l.take n).length = n by rw [List.length_take]; have := HN.out; omega] at h1
 ·rw [List.length_drop]; exact blk_set HC.out 0 _
 ·rw [HCA2.out]; exact Kd.C_drop HR.out HN.out HLC.out
 ·rw [List.length_drop]; have := HLC.out; omega
def ranOut_ : Value := .iface 88 (.agg #[])
set_option maxHeartbeats 4000000 in
set_option maxRecDepth 100000 in
theorem take_die (W0 W : World) (gr : Nat) (l : List Int) (n : Nat) (h : Rdr W0 W gr l) (hn : l.length < n) :
  Calls Tryd.prog 53 #[.pointer (some ⟨gr, 0, none⟩), .int .i64 n] W fun e w' => e = .panicked [{ v := ranOut_, recovered := false }] ∧ Rdr W0 w' gr l ∧ Kept W w' (fun k => k = gr) := by
 obtain ⟨A, c, hc, hr, hlc⟩ := h.cell
 have hgt : decide ((l.length : Int) < (n : Int)) = true := decide_eq_true (by omega)
 have hgt2 : ((l.length : Int) < (n : Int)) = True := eq_true (by omega)
 have hgt3 : (l.length < n) = True := eq_true (by omega)
 have hcell : W.cell? ⟨gr, 0, none⟩ = some (.slice A l.length c) := (zi hc 0).trans rfl
 have hu := Tryd.underlying88
 have HH := Aside0.mk h
 clear hc h hr hlc hn
 go_enter Tryd.func53, Tryd.ntmps53
 go_wp2
 exact ⟨rfl, rfl, HH.out, Kept.refl _ _⟩
def numStep (v b : Int) : Int := bits BinOp.or .u64 (IntKind.u64.wrap (v * 256)) (IntKind.u64.wrap b)
def rnum (l : List Int) : Int := wrap64 (l.foldl numStep 0)
theorem foldl_rd {q : List Int} {i : Nat} (h : i < q.length) (v : Int) : (q.take (i + 1)).foldl numStep v = numStep ((q.take i).foldl numStep v) (rd q (i : Int)) := by
 rw [List.take_succ_eq_append_getElem h, List.foldl_append]
 simp [rd, h]
theorem cells_at {W : World} {A : Option Addr} {m : Nat} {l : List Int} (h : (Kd.int .u8).C W A m l) (i : Nat) (hi : i < m) : ∃ ad, A = some ad ∧ W.cell? (ad.add i) = some (.int .u8 (rd l (i : Int))) := by
 obtain ⟨ad, e, hx⟩ := Kd.at_int h (i : Int) (by omega) (by omega)
 rw [Int.toNat_natCast] at hx
 exact ⟨ad, e, hx⟩
set_option maxHeartbeats 4000000 in
set_option maxRecDepth 100000 in
theorem num_c (W0 W : World) (gr : Nat) (l : List Int) (n : Nat) (h : Rdr W0 W gr l) (hn : n ≤ l.length) (hl : l.length ≤ 281474976710656) :
  Calls Tryd.prog 32 #[.pointer (some ⟨gr, 0, none⟩), .int .i64 n] W fun e w' => e = .returned (.int .i64 (rnum (l.take n))) ∧ Rdr W0 w' gr (l.drop n) ∧ Kept W w' (fun k => k = gr) := by
 have HH := Aside0.mk h
 have HN := Aside0.mk hn
 have HL := Aside0.mk hl
 have HQ : Aside0 ((l.take n).length = n) := ⟨by rw [List.length_take]; omega⟩
 obtain ⟨q, hq⟩ : ∃ q, q = l.take n := ⟨_, rfl⟩
 have HQE := Aside0.mk hq
 rw [← hq] at HQ ⊢
 clear h hn hl hq
 go_enter Tryd.func32, Tryd.ntmps32
 go_wp2_with ((with_reducible refine zn (f := 53) rfl ?_); refine zz (some 10) rfl rfl Tryd.func53 (by kernel_rfl) rfl #[.pointer (some ⟨gr, 0, none⟩), .int .i64 n] rfl (by (try simp only [List.map_toArray, List.map_cons, List.map_nil]); first | done | rfl) ?_; refine (take_c W0 W gr l n HH.out HN.out HL.out).mono ?_; rintro e w1 ⟨A, c, rfl, hA_, hc_, hR_, hk_⟩; refine ⟨_, rfl, ?_⟩; (rw [← HQE.out] at hA_); have HA := Aside0.mk hA_; have HCC := Aside0.mk hc_; have HR1 := Aside0.mk hR_; have HK1 := Aside0.mk hk_; clear hA_ hc_ hR_ hk_)
 go_loopg [5, 12] n (fun kq v5 v12 w' => ∃ (x : Int) (i : Nat) (v : Int), v5 = .int .u64 v ∧ v12 = .int .i64 x ∧ Aside0 (x = (i : Int)) ∧ Aside0 (i + kq = n) ∧ Aside0 (v = (q.take i).foldl numStep 0) ∧ w' = w1)
 case atStart => exact ⟨0, 0, 0, rfl, rfl, ⟨rfl⟩, ⟨by omega⟩, ⟨rfl⟩, rfl⟩
 case round =>
  obtain ⟨x, i, v, rfl, rfl, HX, HK, HV, rfl⟩ := hrel
  cases gk with
  | zero =>
   have hi : i = n := by have := HK.out; omega
   subst hi
   have hx : x = (i : Int) := HX.out
   clear HX
   subst hx
   have hlt : decide ((i : Int) < (i : Int)) = false := decide_eq_false (by omega)
   go_wp2
   go_ret
   refine ⟨?_, HR1.out, HK1.out⟩
   unfold rnum
   have h1 := HV.out
   rw [List.take_of_length_le (by rw [HQ.out]; exact Nat.le_refl _)] at h1
   rw [h1]
   rfl
  | succ k2 =>
   have hi : i < n := by have := HK.out; omega
   have hx : x = (i : Int) := HX.out
   clear HX
   subst hx
   obtain ⟨ad, e1, hcx⟩ := cells_at (Kd.C_below HA.out HR1.out.bel) i hi
   subst e1
   have hlt : decide ((i : Int) < (n : Int)) = true := decide_eq_true (by omega)
   have hlt2 : (i < n) = True := eq_true hi
   have hi0 : (0 : Int) ≤ (i : Int) := by omega
   have HI := Aside0.mk hi
   clear hi
   go_wp2
   go_roundg k2
   case measure => omega
   case rel =>
    refine ⟨_, i + 1, _, rfl, rfl, ⟨?_⟩, ⟨by have := HK.out; omega⟩, ⟨?_⟩, rfl⟩
    ·have := HI.out
     have := HN.out
     have := HL.out
     unfold wrap64
     omega
    ·rw [foldl_rd (by rw [HQ.out]; exact HI.out), ← HV.out]
     rfl
set_option maxHeartbeats 4000000 in
set_option maxRecDepth 100000 in
theorem num_die (W0 W : World) (gr : Nat) (l : List Int) (n : Nat) (h : Rdr W0 W gr l) (hn : l.length < n) :
  Calls Tryd.prog 32 #[.pointer (some ⟨gr, 0, none⟩), .int .i64 n] W fun e w' => e = .panicked [{ v := ranOut_, recovered := false }] ∧ Rdr W0 w' gr l ∧ Kept W w' (fun k => k = gr) := by
 have HH := Aside0.mk h
 have HN := Aside0.mk hn
 clear h hn
 go_enter Tryd.func32, Tryd.ntmps32
 go_wp2_with (go_at_call 53; refine (take_die W0 W gr l n HH.out HN.out).mono ?_; rintro e w1 ⟨rfl, hR_, hk_⟩; have HR1 := Aside0.mk hR_; have HK1 := Aside0.mk hk_; clear hR_ hk_)
 exact ⟨rfl, rfl, HR1.out, HK1.out⟩
set_option maxHeartbeats 4000000 in
set_option maxRecDepth 100000 in
theorem good1_idle (p : Addr) (w : World) :
  CallsD Tryd.prog 52 #[.pointer (some p)] .returning w fun e u' w' => e = .returned (.tuple #[]) ∧ u' = .returning ∧ w' = w := by
 have hn : ∀ w : World, (binOp BinOp.neq 20 .nilIface .nilIface).run Tryd.prog w = .ok (.bool false) w := fun _ => by kernel_rfl
 refine callsD_of_wpS Tryd.func52 rfl fun c₀ cs hu => ?_
 apply wpS_seq
 apply wpS_region
 simp [wpOpsS, go_sem, recoverD, hu, Tryd.ntmps52, Exit.thenS]
 refine wpS_of_wp ?_
 go_wp2
 cases c₀
 simp_all [bodyPostS, results, Tryd.results52]
set_option maxHeartbeats 4000000 in
set_option maxRecDepth 100000 in
theorem good1_catch (g : Nat) (b : Bool) (older : List PanicEntry) (w : World) (hc : w.heap[g]? = some (.cells #[.bool b] 4 (0, 0))) :
  CallsD Tryd.prog 52 #[.pointer (some ⟨g, 0, none⟩)] (.panicking ({ v := ranOut_, recovered := false } :: older)) w fun e u' w' => e = .returned (.tuple #[]) ∧ u' = .panicking ({ v := ranOut_, recovered := true } :: older) ∧ w'.heap[g]? = some (.cells #[.bool false] 4 (0, 0)) ∧ Kept w w' (fun k => k = g) ∧ Below g w w' := by
 have HC := Aside0.mk hc
 unfold ranOut_
 have hn : ∀ w : World, (binOp BinOp.neq 20 (.iface 88 (.agg #[])) .nilIface).run Tryd.prog w = .ok (.bool true) w := fun _ => by kernel_rfl
 have hg : ∀ w : World, (eqGuard BinOp.neq 20 (Operand.tmp 5) (Operand.const Value.nilIface) (.iface 88 (.agg #[])) .nilIface).run Tryd.prog w = .ok () w := fun _ => by kernel_rfl
 have ht : ∀ w : World, (Instr.typeAssert (.iface 88 (.agg #[])) 20 88 true).run Tryd.prog w = .ok (.tuple #[.agg #[], .bool true]) w := fun _ => by kernel_rfl
 have hA := zg hc (.cells #[] 88)
 have hcA : (w.alloc (.cells #[] 88)).cell? ⟨g, 0, none⟩ = some (.bool b) := (zi hA 0).trans rfl
 have hzA := zd hA 0
 have HA := Aside0.mk hA
 clear hc hA
 refine callsD_of_wpS Tryd.func52 rfl fun c₀ cs hu => ?_
 apply wpS_seq
 apply wpS_region
 simp [wpOpsS, go_sem, recoverD, hu, Tryd.ntmps52, Exit.thenS]
 refine wpS_of_wp ?_
 simp only [Array.replicate_succ, Array.replicate_zero, List.push_toArray, List.append_toArray, List.nil_append, List.cons_append, List.setIfInBounds_toArray, List.set_cons_zero, List.set_cons_succ]
 go_wp2
 exact ⟨rfl, _, rfl, _, results_none rfl _ _ _, rfl, rfl, blk_set HA.out 0 _, Kept.setCell (p := ⟨g, 0, none⟩) (Kept.alloc (Kept.refl w (fun k => k = g)) _) (.inl rfl) _, ((zf (Below.refl w.heap.size w) _).mono (Nat.le_of_lt (zy HC.out))).setCell (p := ⟨g, 0, none⟩) (Nat.le_refl _) _⟩
theorem results_bool1 {P : Program} {fn : Func} {p : Tmp} {T : TypeId} {tmps : Array Value} {w : World} {ad : Addr} {v : Value} (h : fn.results = #[.cell p T]) (hp : tmps[p]?.getD undef = .pointer (some ad)) (hu : P.underlying T = some .bool) (hc : w.cell? ad = some v) : (results fn tmps).run P w = .ok v w := by
 have hag : (isAgg T).run P w = .ok false w := by simp [isAgg, run_underlying hu]
 simp [results, h, hp, go_sem, hag, hc]
/-- The reading function ends (returned or out of bytes), and good says whether nothing was left. -/
def GoodF (F : FuncId) (cap : Array Value) (W0 W : World) (l : List Int) (T : Option (List Int) → World → Prop) : Prop :=
 ∀ (W1 : World) (gr : Nat), W.heap.size + 1 = gr → Rdr W0 W1 gr l → Below W.heap.size W W1 → W1.heap[W.heap.size]? = some (.cells #[.bool false] 4 (0, 0)) → Calls Tryd.prog F (#[.pointer (some ⟨gr, 0, none⟩)] ++ cap) W1 fun e w' =>
  (∃ v l', e = .returned v ∧ Rdr W0 w' gr l' ∧ T (some l') w' ∧ w'.heap[W.heap.size]? = some (.cells #[.bool false] 4 (0, 0))) ∨ (e = .panicked [{ v := ranOut_, recovered := false }] ∧ T none w' ∧ w'.heap[W.heap.size]? = some (.cells #[.bool false] 4 (0, 0)))
set_option maxHeartbeats 4000000 in
set_option maxRecDepth 100000 in
theorem good_c (W0 W : World) (hB0 : Below W0.heap.size W0 W) (A : Option Addr) (c : Nat) (l : List Int) (hr : (Kd.int .u8).C W0 A l.length l) (hc : l.length ≤ c) (F : FuncId) (cap : Array Value) (hen : ∀ args w, (callFunc F args).run Tryd.prog w = .ok (.enter F args) w) (T : Option (List Int) → World → Prop) (hf : GoodF F cap W0 W l T)
  (hT : ∀ o w w', T o w → Kept w w' (fun k => k = W.heap.size) → Below W.heap.size w w' → T o w') :
  Calls Tryd.prog 30 #[.slice A l.length c, .func (.func F) #[] cap] W fun e w' => ∃ o, e = .returned (.bool (decide (o = some []))) ∧ T o w' := by
 have hmf : ∀ (fn : Fn) (first cap : Array Value) (w : World), (Instr.makeFunc fn first cap).run Tryd.prog w = .ok (.func fn first cap) w := fun _ _ _ _ => rfl
 go_enter_defers Tryd.func30, Tryd.ntmps30
 go_wp2
 have hw1 := blk_new (W.alloc (.cells #[.bool false] 4)) (.cells #[.slice A l.length c] 91)
 have hb2 : Below W.heap.size W ((W.alloc (.cells #[.bool false] 4)).alloc (.cells #[.slice A l.length c] 91)) := zf (zf (Below.refl _ _) _) _
 have hw1' : ((W.alloc (.cells #[.bool false] 4)).alloc (.cells #[.slice A l.length c] 91)).heap[W.heap.size + 1]? = some (.cells #[.slice A l.length c] 91 (0, 0)) := by rw [World.size_alloc] at hw1; exact hw1
 refine (hf _ _ rfl ⟨⟨A, c, hw1', hr, hc⟩, by have := hB0.size; omega, zm hB0 hb2⟩ hb2 (zg (blk_new W (.cells #[.bool false] 4)) _)).mono ?_
 rintro e w3 (⟨v, l', rfl, hR3, hT3, hb3⟩ | ⟨rfl, hT3, hb3⟩)
 ·obtain ⟨A', c', hc3, _, _⟩ := hR3.cell
  have hcell : w3.cell? ⟨W.heap.size + 1, 0, none⟩ = some (.slice A' l'.length c') := (zi hc3 0).trans rfl
  have hcb : w3.cell? ⟨W.heap.size, 0, none⟩ = some (.bool false) := (zi hb3 0).trans rfl
  have hzb := zd hb3 0
  have HB3 := Aside0.mk hb3
  have HT3 := Aside0.mk hT3
  clear hf hT3 hR3 hc3 hb3 hw1 hw1' hb2
  go_wp2
  refine leaves_cons (f := 52) (args := #[.pointer (some ⟨W.heap.size, 0, none⟩)]) (by simp) (by simp [go_sem]) ?_
  refine (good1_idle ⟨W.heap.size, 0, none⟩ _).mono ?_
  rintro e u' w'' ⟨rfl, rfl, rfl⟩
  have hbs := blk_set HB3.out 0 (.bool ((l'.length : Int) == 0))
  have hcs : (w3.setCell ⟨W.heap.size, 0, none⟩ (.bool ((l'.length : Int) == 0))).cell? ⟨W.heap.size, 0, none⟩ = some (.bool ((l'.length : Int) == 0)) := (zi hbs 0).trans rfl
  refine ⟨_, results_bool1 rfl rfl Tryd.underlying4 hcs, some l', ?_, hT _ _ _ HT3.out (Kept.setCell (p := ⟨W.heap.size, 0, none⟩) (Kept.refl w3 (fun k => k = W.heap.size)) (.inl rfl) _) ((Below.refl W.heap.size w3).setCell (p := ⟨W.heap.size, 0, none⟩) (Nat.le_refl _) _)⟩
  cases l' with
  | nil => rfl
  | cons a l' =>
   have h1 : ¬ (((a :: l').length : Int) = 0) := by rw [List.length_cons]; omega
   simp only [reduceCtorEq, decide_false, Option.some.injEq, beq_eq_false_iff_ne.mpr h1]
 ·have HB3 := Aside0.mk hb3
  have HT3 := Aside0.mk hT3
  clear hf hT3 hw1 hw1' hb2
  go_wp2
  refine leaves_cons (f := 52) (args := #[.pointer (some ⟨W.heap.size, 0, none⟩)]) (by simp) (by simp [go_sem]) ?_
  refine (good1_catch W.heap.size false [] w3 HB3.out).mono ?_
  rintro e u' w4 ⟨rfl, rfl, hb4, hk4, hl4⟩
  have hcs : w4.cell? ⟨W.heap.size, 0, none⟩ = some (.bool false) := (zi hb4 0).trans rfl
  exact ⟨_, results_bool1 rfl rfl Tryd.underlying4 hcs, none, rfl, hT _ _ _ HT3.out hk4 hl4⟩
def bytesOk (l : List Int) : Prop := ∀ x ∈ l, 0 ≤ x ∧ x ≤ 255
theorem bytesOk.drop {l : List Int} (h : bytesOk l) (n : Nat) : bytesOk (l.drop n) := fun x hx => h x (List.mem_of_mem_drop hx)
theorem rnum_1 {b : Int} (h0 : 0 ≤ b) (h1 : b ≤ 255) : rnum [b] = ((b.toNat : Nat) : Int) := by
 obtain ⟨c, rfl⟩ := Int.eq_ofNat_of_zero_le h0
 have e1 : IntKind.u64.wrap ((0 : Int) * 256) = ((0 : Nat) : Int) := by
  show ((0 : Int) * 256) % 18446744073709551616 = _
  omega
 have e2 : IntKind.u64.wrap (c : Int) = (c : Int) := by
  show (c : Int) % 18446744073709551616 = _
  omega
 unfold rnum
 rw [List.foldl_cons, List.foldl_nil]
 unfold numStep
 rw [e1, e2]
 unfold bits
 have e4 : ((BitVec.ofInt IntKind.u64.bits ((0 : Nat) : Int)) ||| (BitVec.ofInt IntKind.u64.bits (c : Int))).toNat = c := by
  rw [BitVec.toNat_or, BitVec.ofInt_natCast, BitVec.ofInt_natCast, BitVec.toNat_ofNat, BitVec.toNat_ofNat]
  show (0 % 18446744073709551616) ||| (c % 18446744073709551616) = _
  rw [Nat.mod_eq_of_lt (by omega), Nat.mod_eq_of_lt (by omega), Nat.zero_or]
 simp only [e4]
 show wrap64 ((c : Int) % 18446744073709551616) = _
 rw [Int.toNat_natCast]
 unfold wrap64
 omega
def rtext : List Int → Option (ByteArray × List Int)
 | [] => none
 | b :: t => if b.toNat ≤ t.length then some (strOfNums (t.take b.toNat), t.drop b.toNat) else none
theorem rtext_len {l l' : List Int} {s : ByteArray} (h : rtext l = some (s, l')) : l'.length ≤ l.length := by
 cases l with
 | nil => cases h
 | cons b t =>
  simp only [rtext] at h
  split at h
  ·simp only [Option.some.injEq, Prod.mk.injEq] at h
   rw [← h.2, List.length_drop, List.length_cons]; omega
  ·cases h
theorem rtext_ok {l l' : List Int} {s : ByteArray} (h : rtext l = some (s, l')) (ok : bytesOk l) : bytesOk l' := by
 cases l with
 | nil => cases h
 | cons b t =>
  simp only [rtext] at h
  split at h
  ·simp only [Option.some.injEq, Prod.mk.injEq] at h
   rw [← h.2]; exact bytesOk.drop (fun x hx => ok x (List.mem_cons_of_mem _ hx)) _
  ·cases h
set_option maxHeartbeats 1000000 in
set_option maxRecDepth 100000 in
theorem text_c (W0 W : World) (gr : Nat) (l l' : List Int) (s : ByteArray) (h : Rdr W0 W gr l) (ok : bytesOk l) (hl : l.length ≤ 281474976710656) (he : rtext l = some (s, l')) :
  Calls Tryd.prog 55 #[.pointer (some ⟨gr, 0, none⟩)] W fun e w' => e = .returned (.string s) ∧ Rdr W0 w' gr l' ∧ Kept W w' (fun k => k = gr) := by
 cases l with
 | nil => cases he
 | cons b t =>
  simp only [rtext] at he
  split at he
  ·rename_i hb
   simp only [Option.some.injEq, Prod.mk.injEq] at he
   obtain ⟨rfl, rfl⟩ := he
   have HH := Aside0.mk h
   have HB1 := Aside0.mk (rnum_1 (ok b (by simp)).1 (ok b (by simp)).2)
   have HN := Aside0.mk hb
   have HL := Aside0.mk (show t.length ≤ 281474976710656 by rw [List.length_cons] at hl; omega)
   have HL1 := Aside0.mk (And.intro (show 1 ≤ (b :: t).length by rw [List.length_cons]; omega) hl)
   clear h ok hl hb
   go_enter Tryd.func55, Tryd.ntmps55
   go_wp2_with (first | ((with_reducible refine zn (f := 32) rfl ?_); refine zz (some 5) rfl rfl Tryd.func32 (by kernel_rfl) rfl #[.pointer (some ⟨gr, 0, none⟩), .int .i64 1] rfl (by (try simp only [List.map_toArray, List.map_cons, List.map_nil]); first | done | rfl) ?_; refine (num_c W0 W gr (b :: t) 1 HH.out HL1.out.1 HL1.out.2).mono ?_; rintro e w1 ⟨he_, hR_, hk_⟩; rw [show rnum ((b :: t).take 1) = ((b.toNat : Nat) : Int) from HB1.out] at he_; subst he_; refine ⟨_, rfl, ?_⟩; have HR1 : Aside0 (Rdr W0 w1 gr t) := ⟨hR_⟩; have HK1 := Aside0.mk hk_; clear hR_ hk_) | ((with_reducible refine zn (f := 53) rfl ?_); refine zz (some 6) rfl rfl Tryd.func53 (by kernel_rfl) rfl #[.pointer (some ⟨gr, 0, none⟩), .int .i64 ((b.toNat : Nat) : Int)] rfl (by (try simp only [List.map_toArray, List.map_cons, List.map_nil]); first | done | rfl) ?_; refine (take_c W0 w1 gr t b.toNat HR1.out HN.out HL.out).mono ?_; rintro e w2 ⟨A, c, rfl, hA_, hc_, hR_, hk_⟩; refine ⟨_, rfl, ?_⟩; have hcv := Kd.C_string (P := Tryd.prog) (A := A) (c := c) Tryd.underlying22 Tryd.underlying5 Tryd.underlying9 (Kd.C_below hA_ hR_.bel); have HR2 := Aside0.mk hR_; have HK2 := Aside0.mk (HK1.out.then_ hk_ (fun _ h_ => .inl h_)); clear hA_ hc_ hR_ hk_))
   go_ret
   exact ⟨rfl, HR2.out, HK2.out⟩
  ·cases he
set_option maxHeartbeats 1000000 in
set_option maxRecDepth 100000 in
theorem text_die (W0 W : World) (gr : Nat) (l : List Int) (h : Rdr W0 W gr l) (ok : bytesOk l) (hl : l.length ≤ 281474976710656) (he : rtext l = none) :
  Calls Tryd.prog 55 #[.pointer (some ⟨gr, 0, none⟩)] W fun e w' => e = .panicked [{ v := ranOut_, recovered := false }] ∧ (∃ l', Rdr W0 w' gr l') ∧ Kept W w' (fun k => k = gr) := by
 cases l with
 | nil =>
  have HH := Aside0.mk h
  clear h ok hl he
  go_enter Tryd.func55, Tryd.ntmps55
  go_wp2_with (go_at_call 32; refine (num_die W0 W gr [] 1 HH.out (by simp)).mono ?_; rintro e w1 ⟨rfl, hR_, hk_⟩; have HR1 := Aside0.mk hR_; have HK1 := Aside0.mk hk_; clear hR_ hk_)
  exact ⟨rfl, rfl, ⟨_, HR1.out⟩, HK1.out⟩
 | cons b t =>
  simp only [rtext] at he
  split at he
  ·cases he
  ·rename_i hb
   have HH := Aside0.mk h
   have HB1 := Aside0.mk (rnum_1 (ok b (by simp)).1 (ok b (by simp)).2)
   have HN := Aside0.mk (show t.length < b.toNat by omega)
   have HB2 : Aside0 (∃ nb : Nat, rnum [b] = ((nb : Nat) : Int) ∧ t.length < nb) := ⟨⟨b.toNat, HB1.out, HN.out⟩⟩
   obtain ⟨nb, zA, zB⟩ := HB2.out
   have HB3 := Aside0.mk zA
   have HN3 := Aside0.mk zB
   clear zA zB HB2 HN HB1
   have HL1 := Aside0.mk (And.intro (show 1 ≤ (b :: t).length by rw [List.length_cons]; omega) hl)
   clear h ok hl hb he
   go_enter Tryd.func55, Tryd.ntmps55
   go_wp2_with (first | ((with_reducible refine zn (f := 32) rfl ?_); refine zz (some 5) rfl rfl Tryd.func32 (by kernel_rfl) rfl #[.pointer (some ⟨gr, 0, none⟩), .int .i64 1] rfl (by (try simp only [List.map_toArray, List.map_cons, List.map_nil]); first | done | rfl) ?_; refine (num_c W0 W gr (b :: t) 1 HH.out HL1.out.1 HL1.out.2).mono ?_; rintro e w1 ⟨he_, hR_, hk_⟩; rw [show rnum ((b :: t).take 1) = ((nb : Nat) : Int) from HB3.out] at he_; subst he_; refine ⟨_, rfl, ?_⟩; have HR1 : Aside0 (Rdr W0 w1 gr t) := ⟨hR_⟩; have HK1 := Aside0.mk hk_; clear hR_ hk_) | (go_at_call 53; refine (take_die W0 w1 gr t nb HR1.out HN3.out).mono ?_; rintro e w2 ⟨rfl, hR_, hk_⟩; have HR2 := Aside0.mk hR_; have HK2 := Aside0.mk (HK1.out.then_ hk_ (fun _ h_ => .inl h_)); clear hR_ hk_))
   exact ⟨rfl, rfl, ⟨_, HR2.out⟩, HK2.out⟩
def nodeC (a b : ByteArray) (ns : List Int) (ext : List Value) : Array Value := (Value.string a :: Value.string b :: (ns.map (Value.int .i64) ++ ext)).toArray
theorem nodeC_at {a b : ByteArray} {ns : List Int} {ext : List Value} (h : ns.length = 5) {i : Nat} (hi : i < 5) : (nodeC a b ns ext)[2 + i]? = some (.int .i64 (ns.getD i 0)) := by
 unfold nodeC
 rw [List.getElem?_toArray, Nat.add_comm 2 i, List.getElem?_cons_succ, List.getElem?_cons_succ, List.getElem?_append_left (by rw [List.length_map]; omega), List.getElem?_map, List.getElem?_eq_getElem (by omega)]
 simp [List.getD_eq_getElem?_getD, List.getElem?_eq_getElem (show i < ns.length by omega)]
theorem nodeC_set {a b : ByteArray} {ns : List Int} {ext : List Value} (h : ns.length = 5) {i : Nat} (hi : i < 5) (v : Int) : (nodeC a b ns ext).setIfInBounds (2 + i) (.int .i64 v) = nodeC a b (ns.set i v) ext := by
 unfold nodeC
 rw [List.setIfInBounds_toArray, Nat.add_comm 2 i, List.set_cons_succ, List.set_cons_succ, List.set_append_left _ _ (by rw [List.length_map]; omega), List.map_set]
def nums5R (l : List Int) : List Int := [rnum (l.take 4), rnum ((l.drop 4).take 4), rnum ((l.drop 8).take 4), rnum ((l.drop 12).take 4), rnum ((l.drop 16).take 4)]
theorem ns_all {ns l : List Int} (h : ns.length = 5) (h2 : ∀ j, j < 5 → ns[j]? = some (rnum ((l.drop (4 * j)).take 4))) : ns = nums5R l := by
 have e0 := h2 0 (by omega)
 have e1 := h2 1 (by omega)
 have e2 := h2 2 (by omega)
 have e3 := h2 3 (by omega)
 have e4 := h2 4 (by omega)
 match ns, h with
 | [x0, x1, x2, x3, x4], _ =>
  simp only [List.getElem?_cons_zero, List.getElem?_cons_succ, Option.some.injEq, Nat.mul_zero, List.drop_zero] at e0 e1 e2 e3 e4
  rw [e0, e1, e2, e3, e4]
  rfl
theorem ptr5 (gn : Nat) {i : Nat} (h : i < 5) : (#[.pointer (some ⟨gn, 2, none⟩), .pointer (some ⟨gn, 3, none⟩), .pointer (some ⟨gn, 4, none⟩), .pointer (some ⟨gn, 5, none⟩), .pointer (some ⟨gn, 6, none⟩)] : Array Value)[i]? = some (.pointer (some ⟨gn, 2 + i, none⟩)) := by
 rcases (show i = 0 ∨ i = 1 ∨ i = 2 ∨ i = 3 ∨ i = 4 by omega) with rfl | rfl | rfl | rfl | rfl <;> rfl
theorem Rdr.set {W0 W : World} {gr gn : Nat} {l : List Int} (h : Rdr W0 W gr l) (hne : gn ≠ gr) (hge : W0.heap.size ≤ gn) (i : Nat) (v : Value) : Rdr W0 (W.setCell ⟨gn, i, none⟩ v) gr l := by
 obtain ⟨A, c, h1, h2, h3⟩ := h.cell
 exact ⟨⟨A, c, zo h1 (p := ⟨gn, i, none⟩) (Ne.symm hne) v, h2, h3⟩, h.ge, h.bel.setCell (p := ⟨gn, i, none⟩) hge v⟩
theorem Rdr.drew {W0 W : World} {gr : Nat} {l : List Int} (h : Rdr W0 W gr l) : Rdr W0 W.drew gr l := by
 obtain ⟨A, c, h1, h2, h3⟩ := h.cell
 exact ⟨⟨A, c, zj h1, h2, h3⟩, h.ge, below_drew h.bel⟩
theorem index_ptr {P : Program} {ops : Array Oper} {rest : List Oper} {o : Oper} {a : Act} {Q : Exit → Act → World → Prop} {W : World} (hgd : o.guard = none) {t e q : TypeId} {ke : IntKind} {x i : Operand} {vs : Array Value} {n : Nat} {v : Value} (ho : o.op = .index t x i) {N : Tmp} (_hd : o.dst = some N)
  (hx : a.eval x = .agg vs) (hi : a.eval i = .int ke (n : Int)) (hu : P.underlying t = some (.array 5 e)) (he : P.underlying e = some (.pointer q)) (hz : (P.info? e).map (·.size) = some 1) (hj : n < 5) (hv : vs[n]? = some v)
  (h : wpList P ops Q rest (a.put o.dst v) W) : wpList P ops Q (o :: rest) a W := by
 refine Kd.event_run hgd (v := v) (w1 := W) ?_ h
 cases hq : P.info? e with
 | none => simp [hq] at hz
 | some f =>
  have hs : f.size = 1 := by simpa [hq] using hz
  have hagg : (isAgg e).run P W = .ok false W := by
   unfold isAgg
   simp [run_underlying he]
  have hn : n < vs.size := by
   rcases Nat.lt_or_ge n vs.size with h | h
   ·exact h
   ·rw [Array.getElem?_eq_none h] at hv; cases hv
  unfold execOp
  simp only [ho, hx, hi]
  simp [Instr.index, asIntOf, run_underlying hu, sizeOf, typeInfo, hq, hs, part, hagg, hj]
  rw [Array.getElem?_eq_getElem hn] at hv
  first | exact Option.some.inj hv | simpa [hn] using Option.some.inj hv
def rnode (l : List Int) : Option (S53 × List Int) := match rtext l with
 | none => none
 | some (s0, l1) => match rtext l1 with
  | none => none
  | some (s1, l2) => if 20 ≤ l2.length then some (⟨s0, s1, rnum (l2.take 4), rnum ((l2.drop 4).take 4), rnum ((l2.drop 8).take 4), rnum ((l2.drop 12).take 4), rnum ((l2.drop 16).take 4)⟩, l2.drop 20) else none
set_option maxHeartbeats 2000000 in
set_option maxRecDepth 100000 in
theorem get_c (W0 W : World) (gr gn : Nat) (l : List Int) (a0 a1 : ByteArray) (ns0 : List Int) (ext : List Value) (T_ : TypeId) (h : Rdr W0 W gr l) (ok : bytesOk l) (hl : l.length ≤ 281474976710656) (ha : W.heap[gn]? = some (.cells (nodeC a0 a1 ns0 ext) T_ (0, 0))) (hne : gn ≠ gr) (hge : W0.heap.size ≤ gn) (hn5 : ns0.length = 5) (s0 s1 : ByteArray) (l1 l2 : List Int) (he0 : rtext l = some (s0, l1)) (he1 : rtext l1 = some (s1, l2)) (h20 : 20 ≤ l2.length) :
  Calls Tryd.prog 54 #[.pointer (some ⟨gn, 0, none⟩), .pointer (some ⟨gr, 0, none⟩)] W fun e w' => e = .returned (.tuple #[]) ∧ Rdr W0 w' gr (l2.drop 20) ∧ w'.heap[gn]? = some (.cells (nodeC s0 s1 (nums5R l2) ext) T_ (0, 0)) ∧ Kept W w' (fun k => k = gr ∨ k = gn) := by
 have HH := Aside0.mk h
 have HO := Aside0.mk ok
 have HL := Aside0.mk hl
 have HA := Aside0.mk ha
 have HNE := Aside0.mk (And.intro hne hge)
 have HN5 := Aside0.mk hn5
 have HE0 := Aside0.mk he0
 have HE1 := Aside0.mk he1
 have zA := Aside0.mk (rtext_ok he0 ok)
 have HL1 := Aside0.mk (Nat.le_trans (rtext_len he0) hl)
 have HL2 := Aside0.mk (Nat.le_trans (rtext_len he1) HL1.out)
 have HG20 := Aside0.mk h20
 clear he0 he1 h20
 clear h ok hl ha hne hge hn5
 go_enter Tryd.func54, Tryd.ntmps54
 go_wp2_with (first | ((with_reducible refine zn (f := 55) rfl ?_); refine zz (some 8) rfl rfl Tryd.func55 (by kernel_rfl) rfl #[.pointer (some ⟨gr, 0, none⟩)] rfl (by (try simp only [List.map_toArray, List.map_cons, List.map_nil]); first | done | rfl) ?_; refine (text_c W0 W gr l l1 s0 HH.out HO.out HL.out HE0.out).mono ?_; rintro e w1 ⟨rfl, hR_, hk_⟩; refine ⟨_, rfl, ?_⟩; have HK1 := Aside0.mk hk_; have HA1 := Aside0.mk ((hk_.2 gn (zy HA.out) HNE.out.1).trans HA.out); have hc0 : w1.cell? ⟨gn, 0, none⟩ = some (.string a0) := (zi HA1.out 0).trans rfl; have hf0 := zd HA1.out 0; have HR1 := Aside0.mk (Rdr.set hR_ HNE.out.1 HNE.out.2 0 (.string s0)); have HA2 : Aside0 ((w1.setCell ⟨gn, 0, none⟩ (.string s0)).heap[gn]? = some (.cells (nodeC s0 a1 ns0 ext) T_ (0, 0))) := ⟨blk_set HA1.out 0 (.string s0)⟩; clear hR_ hk_) | ((with_reducible refine zn (f := 55) rfl ?_); refine zz (some 14) rfl rfl Tryd.func55 (by kernel_rfl) rfl #[.pointer (some ⟨gr, 0, none⟩)] rfl (by (try simp only [List.map_toArray, List.map_cons, List.map_nil]); first | done | rfl) ?_; refine (text_c W0 (w1.setCell ⟨gn, 0, none⟩ (.string s0)) gr l1 l2 s1 HR1.out zA.out HL1.out HE1.out).mono ?_; rintro e w2 ⟨rfl, hR_, hk_⟩; refine ⟨_, rfl, ?_⟩; have HK2 := Aside0.mk ((((HK1.out.mono (fun _ h_ => .inl h_) : Kept W w1 (fun k => k = gr ∨ k = gn)).setCell (p := ⟨gn, 0, none⟩) (.inl (.inr rfl)) (.string s0)).then_ hk_ (fun _ h_ => .inl (.inl h_)))); have HA3 := Aside0.mk ((hk_.2 gn (zy HA2.out) HNE.out.1).trans HA2.out); have hc1 : w2.cell? ⟨gn, 1, none⟩ = some (.string a1) := (zi HA3.out 1).trans rfl; have hf1 := zd HA3.out 1; have HR2 := Aside0.mk (Rdr.set hR_ HNE.out.1 HNE.out.2 1 (.string s1)); have HA4 : Aside0 ((w2.setCell ⟨gn, 1, none⟩ (.string s1)).heap[gn]? = some (.cells (nodeC s0 s1 ns0 ext) T_ (0, 0))) := ⟨blk_set HA3.out 1 (.string s1)⟩; have HK3 := Aside0.mk (HK2.out.setCell (p := ⟨gn, 1, none⟩) (.inl (.inr rfl)) (.string s1)); clear hR_ hk_))
 refine start_ (n := 22) (S := fun w' => True) (ds := []) #[false, false, false, false, false, false, false, false, false, false, false, false, false, false, false, false, false, false, false, false, false, false] (by kernel_rfl) rfl rfl trivial (fun hHeld => ?_)
 have HR3 : Aside0 (Rdr W0 (w2.setCell ⟨gn, 1, none⟩ (.string s1)).drew gr l2) := ⟨HR2.out.drew⟩; have HA5 : Aside0 ((w2.setCell ⟨gn, 1, none⟩ (.string s1)).drew.heap[gn]? = some (.cells (nodeC s0 s1 ns0 ext) T_ (0, 0))) := ⟨HA4.out⟩; have HK4 : Aside0 (Kept W (w2.setCell ⟨gn, 1, none⟩ (.string s1)).drew (fun k => k = gr ∨ k = gn)) := ⟨HK3.out⟩; clear hc0 hf0 hc1 hf1; generalize (w2.setCell ⟨gn, 1, none⟩ (.string s1)).drew = w4 at HR3 HA5 HK4 hHeld ⊢
 refine zv (i := 0) (N := some 18) (v := ?_) (a' := ?_) #[true, false, false, false, false, false, false, false, false, false, false, false, false, false, false, false, false, false, false, false, false, false] rfl rfl (by kernel_rfl) (fun _ _ _ h => h) (Or.inl ⟨by rfl, ?_⟩) ?_ ?_
 rotate_left
 ·intro w'
  go_simp
  with_reducible rfl
 rotate_left
 ·simp only [Act.put, List.setIfInBounds_toArray, List.set_cons_zero, List.set_cons_succ, zp, zr]
  rfl
 refine zv (i := 1) (N := some 19) (v := ?_) (a' := ?_) #[true, true, false, false, false, false, false, false, false, false, false, false, false, false, false, false, false, false, false, false, false, false] rfl rfl (by kernel_rfl) (fun _ _ _ h => h) (Or.inl ⟨by rfl, ?_⟩) ?_ ?_
 rotate_left
 ·intro w'
  go_simp
  with_reducible rfl
 rotate_left
 ·simp only [Act.put, List.setIfInBounds_toArray, List.set_cons_zero, List.set_cons_succ, zp, zr]
  rfl
 refine zv (i := 2) (N := some 20) (v := ?_) (a' := ?_) #[true, true, true, false, false, false, false, false, false, false, false, false, false, false, false, false, false, false, false, false, false, false] rfl rfl (by kernel_rfl) (fun _ _ _ h => h) (Or.inl ⟨by rfl, ?_⟩) ?_ ?_
 rotate_left
 ·intro w'
  go_simp
  with_reducible rfl
 rotate_left
 ·simp only [Act.put, List.setIfInBounds_toArray, List.set_cons_zero, List.set_cons_succ, zp, zr]
  rfl
 refine zv (i := 3) (N := some 21) (v := ?_) (a' := ?_) #[true, true, true, true, false, false, false, false, false, false, false, false, false, false, false, false, false, false, false, false, false, false] rfl rfl (by kernel_rfl) (fun _ _ _ h => h) (Or.inl ⟨by rfl, ?_⟩) ?_ ?_
 rotate_left
 ·intro w'
  go_simp
  with_reducible rfl
 rotate_left
 ·simp only [Act.put, List.setIfInBounds_toArray, List.set_cons_zero, List.set_cons_succ, zp, zr]
  rfl
 refine zv (i := 4) (N := some 22) (v := ?_) (a' := ?_) #[true, true, true, true, true, false, false, false, false, false, false, false, false, false, false, false, false, false, false, false, false, false] rfl rfl (by kernel_rfl) (fun _ _ _ h => h) (Or.inl ⟨by rfl, ?_⟩) ?_ ?_
 rotate_left
 ·intro w'
  go_simp
  with_reducible rfl
 rotate_left
 ·simp only [Act.put, List.setIfInBounds_toArray, List.set_cons_zero, List.set_cons_succ, zp, zr]
  rfl
 refine zv (i := 5) (N := some 23) (v := ?_) (a' := ?_) #[true, true, true, true, true, true, false, false, false, false, false, false, false, false, false, false, false, false, false, false, false, false] rfl rfl (by kernel_rfl) (fun _ _ _ h => h) (Or.inl ⟨by rfl, ?_⟩) ?_ ?_
 rotate_left
 ·intro w'
  go_simp
  with_reducible rfl
 rotate_left
 ·simp only [Act.put, List.setIfInBounds_toArray, List.set_cons_zero, List.set_cons_succ, zp, zr]
  rfl
 refine zv (i := 6) (N := some 24) (v := ?_) (a' := ?_) #[true, true, true, true, true, true, true, false, false, false, false, false, false, false, false, false, false, false, false, false, false, false] rfl rfl (by kernel_rfl) (fun _ _ _ h => h) (Or.inl ⟨by rfl, ?_⟩) ?_ ?_
 rotate_left
 ·intro w'
  go_simp
  with_reducible rfl
 rotate_left
 ·simp only [Act.put, List.setIfInBounds_toArray, List.set_cons_zero, List.set_cons_succ, zp, zr]
  rfl
 refine zv (i := 7) (N := some 25) (v := ?_) (a' := ?_) #[true, true, true, true, true, true, true, true, false, false, false, false, false, false, false, false, false, false, false, false, false, false] rfl rfl (by kernel_rfl) (fun _ _ _ h => h) (Or.inl ⟨by rfl, ?_⟩) ?_ ?_
 rotate_left
 ·intro w'
  go_simp
  with_reducible rfl
 rotate_left
 ·simp only [Act.put, List.setIfInBounds_toArray, List.set_cons_zero, List.set_cons_succ, zp, zr]
  rfl
 refine zv (i := 8) (N := some 26) (v := ?_) (a' := ?_) #[true, true, true, true, true, true, true, true, true, false, false, false, false, false, false, false, false, false, false, false, false, false] rfl rfl (by kernel_rfl) (fun _ _ _ h => h) (Or.inl ⟨by rfl, ?_⟩) ?_ ?_
 rotate_left
 ·intro w'
  go_simp
  with_reducible rfl
 rotate_left
 ·simp only [Act.put, List.setIfInBounds_toArray, List.set_cons_zero, List.set_cons_succ, zp, zr]
  rfl
 refine zv (i := 9) (N := some 27) (v := ?_) (a' := ?_) #[true, true, true, true, true, true, true, true, true, true, false, false, false, false, false, false, false, false, false, false, false, false] rfl rfl (by kernel_rfl) (fun _ _ _ h => h) (Or.inl ⟨by rfl, ?_⟩) ?_ ?_
 rotate_left
 ·intro w'
  go_simp
  with_reducible rfl
 rotate_left
 ·simp only [Act.put, List.setIfInBounds_toArray, List.set_cons_zero, List.set_cons_succ, zp, zr]
  rfl
 refine zv (i := 10) (N := some 28) (v := ?_) (a' := ?_) #[true, true, true, true, true, true, true, true, true, true, true, false, false, false, false, false, false, false, false, false, false, false] rfl rfl (by kernel_rfl) (fun _ _ _ h => h) (Or.inl ⟨by rfl, ?_⟩) ?_ ?_
 rotate_left
 ·intro w'
  go_simp
  with_reducible rfl
 rotate_left
 ·simp only [Act.put, List.setIfInBounds_toArray, List.set_cons_zero, List.set_cons_succ, zp, zr]
  rfl
 refine zv (i := 11) (N := some 29) (v := ?_) (a' := ?_) #[true, true, true, true, true, true, true, true, true, true, true, true, false, false, false, false, false, false, false, false, false, false] rfl rfl (by kernel_rfl) (fun _ _ _ h => h) (Or.inl ⟨by rfl, ?_⟩) ?_ ?_
 rotate_left
 ·intro w'
  go_simp
  with_reducible rfl
 rotate_left
 ·simp only [Act.put, List.setIfInBounds_toArray, List.set_cons_zero, List.set_cons_succ, zp, zr]
  rfl
 refine zv (i := 12) (N := some 30) (v := ?_) (a' := ?_) #[true, true, true, true, true, true, true, true, true, true, true, true, true, false, false, false, false, false, false, false, false, false] rfl rfl (by kernel_rfl) (fun _ _ _ h => h) (Or.inl ⟨by rfl, ?_⟩) ?_ ?_
 rotate_left
 ·intro w'
  go_simp
  with_reducible rfl
 rotate_left
 ·simp only [Act.put, List.setIfInBounds_toArray, List.set_cons_zero, List.set_cons_succ, zp, zr]
  rfl
 refine zv (i := 13) (N := some 31) (v := ?_) (a' := ?_) #[true, true, true, true, true, true, true, true, true, true, true, true, true, true, false, false, false, false, false, false, false, false] rfl rfl (by kernel_rfl) (fun _ _ _ h => h) (Or.inl ⟨by rfl, ?_⟩) ?_ ?_
 rotate_left
 ·intro w'
  go_simp
  with_reducible rfl
 rotate_left
 ·simp only [Act.put, List.setIfInBounds_toArray, List.set_cons_zero, List.set_cons_succ, zp, zr]
  rfl
 refine zv (i := 14) (N := some 32) (v := ?_) (a' := ?_) #[true, true, true, true, true, true, true, true, true, true, true, true, true, true, true, false, false, false, false, false, false, false] rfl rfl (by kernel_rfl) (fun _ _ _ h => h) (Or.inl ⟨by rfl, ?_⟩) ?_ ?_
 rotate_left
 ·intro w'
  go_simp
  with_reducible rfl
 rotate_left
 ·simp only [Act.put, List.setIfInBounds_toArray, List.set_cons_zero, List.set_cons_succ, zp, zr]
  rfl
 refine zv (i := 15) (N := some 33) (v := ?_) (a' := ?_) #[true, true, true, true, true, true, true, true, true, true, true, true, true, true, true, true, false, false, false, false, false, false] rfl rfl (by kernel_rfl) (fun _ _ _ h => h) (Or.inl ⟨by rfl, ?_⟩) ?_ ?_
 rotate_left
 ·intro w'
  go_simp
  with_reducible rfl
 rotate_left
 ·simp only [Act.put, List.setIfInBounds_toArray, List.set_cons_zero, List.set_cons_succ, zp, zr]
  rfl
 refine zv (i := 16) (N := some 34) (v := ?_) (a' := ?_) #[true, true, true, true, true, true, true, true, true, true, true, true, true, true, true, true, true, false, false, false, false, false] rfl rfl (by kernel_rfl) (fun _ _ _ h => h) (Or.inl ⟨by rfl, ?_⟩) ?_ ?_
 rotate_left
 ·intro w'
  go_simp
  with_reducible rfl
 rotate_left
 ·simp only [Act.put, List.setIfInBounds_toArray, List.set_cons_zero, List.set_cons_succ, zp, zr]
  rfl
 refine zv (i := 17) (N := some 35) (v := ?_) (a' := ?_) #[true, true, true, true, true, true, true, true, true, true, true, true, true, true, true, true, true, true, false, false, false, false] rfl rfl (by kernel_rfl) (fun _ _ _ h => h) (Or.inl ⟨by rfl, ?_⟩) ?_ ?_
 rotate_left
 ·intro w'
  go_simp
  with_reducible rfl
 rotate_left
 ·simp only [Act.put, List.setIfInBounds_toArray, List.set_cons_zero, List.set_cons_succ, zp, zr]
  rfl
 refine zv (i := 18) (N := some 36) (v := ?_) (a' := ?_) #[true, true, true, true, true, true, true, true, true, true, true, true, true, true, true, true, true, true, true, false, false, false] rfl rfl (by kernel_rfl) (fun _ _ _ h => h) (Or.inl ⟨by rfl, ?_⟩) ?_ ?_
 rotate_left
 ·intro w'
  go_simp
  with_reducible rfl
 rotate_left
 ·simp only [Act.put, List.setIfInBounds_toArray, List.set_cons_zero, List.set_cons_succ, zp, zr]
  rfl
 refine zv (i := 19) (N := some 37) (v := ?_) (a' := ?_) #[true, true, true, true, true, true, true, true, true, true, true, true, true, true, true, true, true, true, true, true, false, false] rfl rfl (by kernel_rfl) (fun _ _ _ h => h) (Or.inl ⟨by rfl, ?_⟩) ?_ ?_
 rotate_left
 ·intro w'
  go_simp
  with_reducible rfl
 rotate_left
 ·simp only [Act.put, List.setIfInBounds_toArray, List.set_cons_zero, List.set_cons_succ, zp, zr]
  rfl
 refine zv (i := 20) (N := some 38) (v := ?_) (a' := ?_) #[true, true, true, true, true, true, true, true, true, true, true, true, true, true, true, true, true, true, true, true, true, false] rfl rfl (by kernel_rfl) (fun _ _ _ h => h) (Or.inl ⟨by rfl, ?_⟩) ?_ ?_
 rotate_left
 ·intro w'
  go_simp
  with_reducible rfl
 rotate_left
 ·simp only [Act.put, List.setIfInBounds_toArray, List.set_cons_zero, List.set_cons_succ, zp, zr]
  rfl
 refine zv (i := 21) (N := some 39) (v := ?_) (a' := ?_) #[true, true, true, true, true, true, true, true, true, true, true, true, true, true, true, true, true, true, true, true, true, true] rfl rfl (by kernel_rfl) (fun _ _ _ h => h) (Or.inl ⟨by rfl, ?_⟩) ?_ ?_
 rotate_left
 ·intro w'
  go_simp
  with_reducible rfl
 rotate_left
 ·simp only [Act.put, List.setIfInBounds_toArray, List.set_cons_zero, List.set_cons_succ, zp, zr]
  rfl
 refine done_ (by kernel_rfl) ?_
 go_wp2
 go_loopg [39] 5 (fun kq v39 w' => ∃ (i : Nat) (ns : List Int), v39 = .int .i64 (i : Int) ∧ Aside0 (i + kq = 5) ∧ Aside0 (ns.length = 5 ∧ ∀ j, j < i → ns[j]? = some (rnum ((l2.drop (4 * j)).take 4))) ∧ Aside0 (w'.heap[gn]? = some (.cells (nodeC s0 s1 ns ext) T_ (0, 0))) ∧ Aside0 (Rdr W0 w' gr (l2.drop (4 * i))) ∧ Aside0 (Kept W w' (fun k => k = gr ∨ k = gn)))
 case atStart => exact ⟨0, ns0, rfl, ⟨rfl⟩, ⟨HN5.out, fun j hj => absurd hj (Nat.not_lt_zero _)⟩, HA5, ⟨HR3.out⟩, HK4⟩
 case round =>
  obtain ⟨i, ns, rfl, HKQ, HNS, HAL, HRL, HKL⟩ := hrel
  cases gk with
  | zero =>
   have hi : i = 5 := by have := HKQ.out; omega
   subst hi
   go_wp2
   go_end0
   refine ⟨rfl, HRL.out, ?_, HKL.out⟩
   rw [HAL.out, ← ns_all HNS.out.1 HNS.out.2]
  | succ k2 =>
   have hi : i < 5 := by have := HKQ.out; omega
   have HI := Aside0.mk hi
   have hlt : decide ((i : Int) < 5) = true := decide_eq_true (by omega)
   have HG : Aside0 (4 ≤ (l2.drop (4 * i)).length) := ⟨by have := HG20.out; rw [List.length_drop]; omega⟩
   have hlt2 : ((i : Int) < 5) = True := eq_true (by omega)
   have hlt3 : (i < 5) = True := eq_true hi
   clear hi
   go_wp2_with (first | ((with_reducible refine zw (N := 41) rfl ?_); refine index_ptr rfl (t := 116) (vs := #[.pointer (some ⟨gn, 2, none⟩), .pointer (some ⟨gn, 3, none⟩), .pointer (some ⟨gn, 4, none⟩), .pointer (some ⟨gn, 5, none⟩), .pointer (some ⟨gn, 6, none⟩)]) (n := i) (v := .pointer (some ⟨gn, 2 + i, none⟩)) rfl (N := 41) rfl rfl rfl Tryd.underlying116 Tryd.underlying115 (by kernel_rfl) HI.out (ptr5 gn HI.out) ?_) | ((with_reducible refine zn (f := 32) rfl ?_); refine zz (some 44) rfl rfl Tryd.func32 (by kernel_rfl) rfl #[.pointer (some ⟨gr, 0, none⟩), .int .i64 4] rfl (by (try simp only [List.map_toArray, List.map_cons, List.map_nil]); first | done | rfl) ?_; refine (num_c W0 wr gr (l2.drop (4 * i)) 4 HRL.out HG.out (by have := HL2.out; rw [List.length_drop]; omega)).mono ?_; rintro e w6 ⟨rfl, hR_, hk_⟩; refine ⟨_, rfl, ?_⟩; have HA6 := Aside0.mk ((hk_.2 gn (zy HAL.out) HNE.out.1).trans HAL.out); have hc6 : w6.cell? ⟨gn, 2 + i, none⟩ = some (.int .i64 (ns.getD i 0)) := (zi HA6.out (2 + i)).trans (nodeC_at HNS.out.1 HI.out); have hf6 := zd HA6.out (2 + i); have HR6 := Aside0.mk (Rdr.set hR_ HNE.out.1 HNE.out.2 (2 + i) (.int .i64 (rnum ((l2.drop (4 * i)).take 4)))); have HA7 := Aside0.mk (blk_set HA6.out (2 + i) (.int .i64 (rnum ((l2.drop (4 * i)).take 4)))); have HK6 := Aside0.mk ((HKL.out.then_ hk_ (fun _ h_ => .inl (.inl h_))).setCell (p := ⟨gn, 2 + i, none⟩) (.inl (.inr rfl)) (.int .i64 (rnum ((l2.drop (4 * i)).take 4)))); clear hR_ hk_))
   go_roundg k2
   case measure => omega
   case rel =>
    refine ⟨i + 1, ns.set i (rnum ((l2.drop (4 * i)).take 4)), ?_, ⟨by have := HKQ.out; omega⟩, ⟨by rw [List.length_set]; exact HNS.out.1, fun j hj => ?_⟩, ⟨?_⟩, ⟨?_⟩, HK6⟩
    ·have h_ := HI.out
     rw [show wrap64 ((i : Int) + 1) = ((i + 1 : Nat) : Int) by unfold wrap64; omega]
    ·by_cases hji : j = i
     ·subst hji
      rw [List.getElem?_set_self (by have := HNS.out.1; have := HI.out; omega)]
     ·rw [List.getElem?_set_ne (Ne.symm hji)]
      exact HNS.out.2 j (by omega)
    ·rw [HA7.out, nodeC_set HNS.out.1 HI.out]
    ·have h_ := HR6.out
     rw [List.drop_drop] at h_
     rwa [show 4 * (i + 1) = 4 * i + 4 by omega]
set_option maxHeartbeats 2000000 in
set_option maxRecDepth 100000 in
theorem get_die (W0 W : World) (gr gn : Nat) (l : List Int) (a0 a1 : ByteArray) (ns0 : List Int) (ext : List Value) (T_ : TypeId) (h : Rdr W0 W gr l) (ok : bytesOk l) (hl : l.length ≤ 281474976710656) (ha : W.heap[gn]? = some (.cells (nodeC a0 a1 ns0 ext) T_ (0, 0))) (hne : gn ≠ gr) (hge : W0.heap.size ≤ gn) (hn5 : ns0.length = 5) (he : rnode l = none) :
  Calls Tryd.prog 54 #[.pointer (some ⟨gn, 0, none⟩), .pointer (some ⟨gr, 0, none⟩)] W fun e w' => e = .panicked [{ v := ranOut_, recovered := false }] ∧ (∃ l', Rdr W0 w' gr l') ∧ Kept W w' (fun k => k = gr ∨ k = gn) := by
 have HH := Aside0.mk h
 have HO := Aside0.mk ok
 have HL := Aside0.mk hl
 have HA := Aside0.mk ha
 have HNE := Aside0.mk (And.intro hne hge)
 have HN5 := Aside0.mk hn5
 unfold rnode at he
 cases h0 : rtext l with
 | none =>
  have HE0 := Aside0.mk h0
  clear he h0
  clear h ok hl ha hne hge hn5
  go_enter Tryd.func54, Tryd.ntmps54
  go_wp2_with (go_at_call 55; refine (text_die W0 W gr l HH.out HO.out HL.out HE0.out).mono ?_; rintro e w1 ⟨rfl, hR_, hk_⟩; have HR1 := Aside0.mk hR_; have HK1 := Aside0.mk hk_; clear hR_ hk_)
  exact ⟨rfl, rfl, HR1.out, HK1.out.mono (fun _ h_ => .inl h_)⟩
 | some p0 =>
  obtain ⟨s0, l1⟩ := p0
  rw [h0] at he
  simp only at he
  have HE0 := Aside0.mk h0
  have zA := Aside0.mk (rtext_ok h0 ok)
  have HL1 := Aside0.mk (Nat.le_trans (rtext_len h0) hl)
  cases h1 : rtext l1 with
  | none =>
   have HE1 := Aside0.mk h1
   clear he h0 h1
   clear h ok hl ha hne hge hn5
   go_enter Tryd.func54, Tryd.ntmps54
   go_wp2_with (first | ((with_reducible refine zn (f := 55) rfl ?_); refine zz (some 8) rfl rfl Tryd.func55 (by kernel_rfl) rfl #[.pointer (some ⟨gr, 0, none⟩)] rfl (by (try simp only [List.map_toArray, List.map_cons, List.map_nil]); first | done | rfl) ?_; refine (text_c W0 W gr l l1 s0 HH.out HO.out HL.out HE0.out).mono ?_; rintro e w1 ⟨rfl, hR_, hk_⟩; refine ⟨_, rfl, ?_⟩; have HK1 := Aside0.mk hk_; have HA1 := Aside0.mk ((hk_.2 gn (zy HA.out) HNE.out.1).trans HA.out); have hc0 : w1.cell? ⟨gn, 0, none⟩ = some (.string a0) := (zi HA1.out 0).trans rfl; have hf0 := zd HA1.out 0; have HR1 := Aside0.mk (Rdr.set hR_ HNE.out.1 HNE.out.2 0 (.string s0)); have HA2 : Aside0 ((w1.setCell ⟨gn, 0, none⟩ (.string s0)).heap[gn]? = some (.cells (nodeC s0 a1 ns0 ext) T_ (0, 0))) := ⟨blk_set HA1.out 0 (.string s0)⟩; clear hR_ hk_) | (go_at_call 55; refine (text_die W0 (w1.setCell ⟨gn, 0, none⟩ (.string s0)) gr l1 HR1.out zA.out HL1.out HE1.out).mono ?_; rintro e w2 ⟨rfl, hR_, hk_⟩; have HR2 := Aside0.mk hR_; have HK2 := Aside0.mk ((((HK1.out.mono (fun _ h_ => .inl h_) : Kept W w1 (fun k => k = gr ∨ k = gn)).setCell (p := ⟨gn, 0, none⟩) (.inl (.inr rfl)) (.string s0)).then_ hk_ (fun _ h_ => .inl (.inl h_)))); clear hR_ hk_))
   exact ⟨rfl, rfl, HR2.out, HK2.out⟩
  | some p1 =>
   obtain ⟨s1, l2⟩ := p1
   rw [h1] at he
   simp only at he
   have HE1 := Aside0.mk h1
   have HL2 := Aside0.mk (Nat.le_trans (rtext_len h1) HL1.out)
   have HG20 : Aside0 (¬ 20 ≤ l2.length) := ⟨fun hh => by rw [if_pos hh] at he; cases he⟩
   clear he h0 h1
   clear h ok hl ha hne hge hn5
   go_enter Tryd.func54, Tryd.ntmps54
   go_wp2_with (first | ((with_reducible refine zn (f := 55) rfl ?_); refine zz (some 8) rfl rfl Tryd.func55 (by kernel_rfl) rfl #[.pointer (some ⟨gr, 0, none⟩)] rfl (by (try simp only [List.map_toArray, List.map_cons, List.map_nil]); first | done | rfl) ?_; refine (text_c W0 W gr l l1 s0 HH.out HO.out HL.out HE0.out).mono ?_; rintro e w1 ⟨rfl, hR_, hk_⟩; refine ⟨_, rfl, ?_⟩; have HK1 := Aside0.mk hk_; have HA1 := Aside0.mk ((hk_.2 gn (zy HA.out) HNE.out.1).trans HA.out); have hc0 : w1.cell? ⟨gn, 0, none⟩ = some (.string a0) := (zi HA1.out 0).trans rfl; have hf0 := zd HA1.out 0; have HR1 := Aside0.mk (Rdr.set hR_ HNE.out.1 HNE.out.2 0 (.string s0)); have HA2 : Aside0 ((w1.setCell ⟨gn, 0, none⟩ (.string s0)).heap[gn]? = some (.cells (nodeC s0 a1 ns0 ext) T_ (0, 0))) := ⟨blk_set HA1.out 0 (.string s0)⟩; clear hR_ hk_) | ((with_reducible refine zn (f := 55) rfl ?_); refine zz (some 14) rfl rfl Tryd.func55 (by kernel_rfl) rfl #[.pointer (some ⟨gr, 0, none⟩)] rfl (by (try simp only [List.map_toArray, List.map_cons, List.map_nil]); first | done | rfl) ?_; refine (text_c W0 (w1.setCell ⟨gn, 0, none⟩ (.string s0)) gr l1 l2 s1 HR1.out zA.out HL1.out HE1.out).mono ?_; rintro e w2 ⟨rfl, hR_, hk_⟩; refine ⟨_, rfl, ?_⟩; have HK2 := Aside0.mk ((((HK1.out.mono (fun _ h_ => .inl h_) : Kept W w1 (fun k => k = gr ∨ k = gn)).setCell (p := ⟨gn, 0, none⟩) (.inl (.inr rfl)) (.string s0)).then_ hk_ (fun _ h_ => .inl (.inl h_)))); have HA3 := Aside0.mk ((hk_.2 gn (zy HA2.out) HNE.out.1).trans HA2.out); have hc1 : w2.cell? ⟨gn, 1, none⟩ = some (.string a1) := (zi HA3.out 1).trans rfl; have hf1 := zd HA3.out 1; have HR2 := Aside0.mk (Rdr.set hR_ HNE.out.1 HNE.out.2 1 (.string s1)); have HA4 : Aside0 ((w2.setCell ⟨gn, 1, none⟩ (.string s1)).heap[gn]? = some (.cells (nodeC s0 s1 ns0 ext) T_ (0, 0))) := ⟨blk_set HA3.out 1 (.string s1)⟩; have HK3 := Aside0.mk (HK2.out.setCell (p := ⟨gn, 1, none⟩) (.inl (.inr rfl)) (.string s1)); clear hR_ hk_))
   refine start_ (n := 22) (S := fun w' => True) (ds := []) #[false, false, false, false, false, false, false, false, false, false, false, false, false, false, false, false, false, false, false, false, false, false] (by kernel_rfl) rfl rfl trivial (fun hHeld => ?_)
   have HR3 : Aside0 (Rdr W0 (w2.setCell ⟨gn, 1, none⟩ (.string s1)).drew gr l2) := ⟨HR2.out.drew⟩; have HA5 : Aside0 ((w2.setCell ⟨gn, 1, none⟩ (.string s1)).drew.heap[gn]? = some (.cells (nodeC s0 s1 ns0 ext) T_ (0, 0))) := ⟨HA4.out⟩; have HK4 : Aside0 (Kept W (w2.setCell ⟨gn, 1, none⟩ (.string s1)).drew (fun k => k = gr ∨ k = gn)) := ⟨HK3.out⟩; clear hc0 hf0 hc1 hf1; generalize (w2.setCell ⟨gn, 1, none⟩ (.string s1)).drew = w4 at HR3 HA5 HK4 hHeld ⊢
   refine zv (i := 0) (N := some 18) (v := ?_) (a' := ?_) #[true, false, false, false, false, false, false, false, false, false, false, false, false, false, false, false, false, false, false, false, false, false] rfl rfl (by kernel_rfl) (fun _ _ _ h => h) (Or.inl ⟨by rfl, ?_⟩) ?_ ?_
   rotate_left
   ·intro w'
    go_simp
    with_reducible rfl
   rotate_left
   ·simp only [Act.put, List.setIfInBounds_toArray, List.set_cons_zero, List.set_cons_succ, zp, zr]
    rfl
   refine zv (i := 1) (N := some 19) (v := ?_) (a' := ?_) #[true, true, false, false, false, false, false, false, false, false, false, false, false, false, false, false, false, false, false, false, false, false] rfl rfl (by kernel_rfl) (fun _ _ _ h => h) (Or.inl ⟨by rfl, ?_⟩) ?_ ?_
   rotate_left
   ·intro w'
    go_simp
    with_reducible rfl
   rotate_left
   ·simp only [Act.put, List.setIfInBounds_toArray, List.set_cons_zero, List.set_cons_succ, zp, zr]
    rfl
   refine zv (i := 2) (N := some 20) (v := ?_) (a' := ?_) #[true, true, true, false, false, false, false, false, false, false, false, false, false, false, false, false, false, false, false, false, false, false] rfl rfl (by kernel_rfl) (fun _ _ _ h => h) (Or.inl ⟨by rfl, ?_⟩) ?_ ?_
   rotate_left
   ·intro w'
    go_simp
    with_reducible rfl
   rotate_left
   ·simp only [Act.put, List.setIfInBounds_toArray, List.set_cons_zero, List.set_cons_succ, zp, zr]
    rfl
   refine zv (i := 3) (N := some 21) (v := ?_) (a' := ?_) #[true, true, true, true, false, false, false, false, false, false, false, false, false, false, false, false, false, false, false, false, false, false] rfl rfl (by kernel_rfl) (fun _ _ _ h => h) (Or.inl ⟨by rfl, ?_⟩) ?_ ?_
   rotate_left
   ·intro w'
    go_simp
    with_reducible rfl
   rotate_left
   ·simp only [Act.put, List.setIfInBounds_toArray, List.set_cons_zero, List.set_cons_succ, zp, zr]
    rfl
   refine zv (i := 4) (N := some 22) (v := ?_) (a' := ?_) #[true, true, true, true, true, false, false, false, false, false, false, false, false, false, false, false, false, false, false, false, false, false] rfl rfl (by kernel_rfl) (fun _ _ _ h => h) (Or.inl ⟨by rfl, ?_⟩) ?_ ?_
   rotate_left
   ·intro w'
    go_simp
    with_reducible rfl
   rotate_left
   ·simp only [Act.put, List.setIfInBounds_toArray, List.set_cons_zero, List.set_cons_succ, zp, zr]
    rfl
   refine zv (i := 5) (N := some 23) (v := ?_) (a' := ?_) #[true, true, true, true, true, true, false, false, false, false, false, false, false, false, false, false, false, false, false, false, false, false] rfl rfl (by kernel_rfl) (fun _ _ _ h => h) (Or.inl ⟨by rfl, ?_⟩) ?_ ?_
   rotate_left
   ·intro w'
    go_simp
    with_reducible rfl
   rotate_left
   ·simp only [Act.put, List.setIfInBounds_toArray, List.set_cons_zero, List.set_cons_succ, zp, zr]
    rfl
   refine zv (i := 6) (N := some 24) (v := ?_) (a' := ?_) #[true, true, true, true, true, true, true, false, false, false, false, false, false, false, false, false, false, false, false, false, false, false] rfl rfl (by kernel_rfl) (fun _ _ _ h => h) (Or.inl ⟨by rfl, ?_⟩) ?_ ?_
   rotate_left
   ·intro w'
    go_simp
    with_reducible rfl
   rotate_left
   ·simp only [Act.put, List.setIfInBounds_toArray, List.set_cons_zero, List.set_cons_succ, zp, zr]
    rfl
   refine zv (i := 7) (N := some 25) (v := ?_) (a' := ?_) #[true, true, true, true, true, true, true, true, false, false, false, false, false, false, false, false, false, false, false, false, false, false] rfl rfl (by kernel_rfl) (fun _ _ _ h => h) (Or.inl ⟨by rfl, ?_⟩) ?_ ?_
   rotate_left
   ·intro w'
    go_simp
    with_reducible rfl
   rotate_left
   ·simp only [Act.put, List.setIfInBounds_toArray, List.set_cons_zero, List.set_cons_succ, zp, zr]
    rfl
   refine zv (i := 8) (N := some 26) (v := ?_) (a' := ?_) #[true, true, true, true, true, true, true, true, true, false, false, false, false, false, false, false, false, false, false, false, false, false] rfl rfl (by kernel_rfl) (fun _ _ _ h => h) (Or.inl ⟨by rfl, ?_⟩) ?_ ?_
   rotate_left
   ·intro w'
    go_simp
    with_reducible rfl
   rotate_left
   ·simp only [Act.put, List.setIfInBounds_toArray, List.set_cons_zero, List.set_cons_succ, zp, zr]
    rfl
   refine zv (i := 9) (N := some 27) (v := ?_) (a' := ?_) #[true, true, true, true, true, true, true, true, true, true, false, false, false, false, false, false, false, false, false, false, false, false] rfl rfl (by kernel_rfl) (fun _ _ _ h => h) (Or.inl ⟨by rfl, ?_⟩) ?_ ?_
   rotate_left
   ·intro w'
    go_simp
    with_reducible rfl
   rotate_left
   ·simp only [Act.put, List.setIfInBounds_toArray, List.set_cons_zero, List.set_cons_succ, zp, zr]
    rfl
   refine zv (i := 10) (N := some 28) (v := ?_) (a' := ?_) #[true, true, true, true, true, true, true, true, true, true, true, false, false, false, false, false, false, false, false, false, false, false] rfl rfl (by kernel_rfl) (fun _ _ _ h => h) (Or.inl ⟨by rfl, ?_⟩) ?_ ?_
   rotate_left
   ·intro w'
    go_simp
    with_reducible rfl
   rotate_left
   ·simp only [Act.put, List.setIfInBounds_toArray, List.set_cons_zero, List.set_cons_succ, zp, zr]
    rfl
   refine zv (i := 11) (N := some 29) (v := ?_) (a' := ?_) #[true, true, true, true, true, true, true, true, true, true, true, true, false, false, false, false, false, false, false, false, false, false] rfl rfl (by kernel_rfl) (fun _ _ _ h => h) (Or.inl ⟨by rfl, ?_⟩) ?_ ?_
   rotate_left
   ·intro w'
    go_simp
    with_reducible rfl
   rotate_left
   ·simp only [Act.put, List.setIfInBounds_toArray, List.set_cons_zero, List.set_cons_succ, zp, zr]
    rfl
   refine zv (i := 12) (N := some 30) (v := ?_) (a' := ?_) #[true, true, true, true, true, true, true, true, true, true, true, true, true, false, false, false, false, false, false, false, false, false] rfl rfl (by kernel_rfl) (fun _ _ _ h => h) (Or.inl ⟨by rfl, ?_⟩) ?_ ?_
   rotate_left
   ·intro w'
    go_simp
    with_reducible rfl
   rotate_left
   ·simp only [Act.put, List.setIfInBounds_toArray, List.set_cons_zero, List.set_cons_succ, zp, zr]
    rfl
   refine zv (i := 13) (N := some 31) (v := ?_) (a' := ?_) #[true, true, true, true, true, true, true, true, true, true, true, true, true, true, false, false, false, false, false, false, false, false] rfl rfl (by kernel_rfl) (fun _ _ _ h => h) (Or.inl ⟨by rfl, ?_⟩) ?_ ?_
   rotate_left
   ·intro w'
    go_simp
    with_reducible rfl
   rotate_left
   ·simp only [Act.put, List.setIfInBounds_toArray, List.set_cons_zero, List.set_cons_succ, zp, zr]
    rfl
   refine zv (i := 14) (N := some 32) (v := ?_) (a' := ?_) #[true, true, true, true, true, true, true, true, true, true, true, true, true, true, true, false, false, false, false, false, false, false] rfl rfl (by kernel_rfl) (fun _ _ _ h => h) (Or.inl ⟨by rfl, ?_⟩) ?_ ?_
   rotate_left
   ·intro w'
    go_simp
    with_reducible rfl
   rotate_left
   ·simp only [Act.put, List.setIfInBounds_toArray, List.set_cons_zero, List.set_cons_succ, zp, zr]
    rfl
   refine zv (i := 15) (N := some 33) (v := ?_) (a' := ?_) #[true, true, true, true, true, true, true, true, true, true, true, true, true, true, true, true, false, false, false, false, false, false] rfl rfl (by kernel_rfl) (fun _ _ _ h => h) (Or.inl ⟨by rfl, ?_⟩) ?_ ?_
   rotate_left
   ·intro w'
    go_simp
    with_reducible rfl
   rotate_left
   ·simp only [Act.put, List.setIfInBounds_toArray, List.set_cons_zero, List.set_cons_succ, zp, zr]
    rfl
   refine zv (i := 16) (N := some 34) (v := ?_) (a' := ?_) #[true, true, true, true, true, true, true, true, true, true, true, true, true, true, true, true, true, false, false, false, false, false] rfl rfl (by kernel_rfl) (fun _ _ _ h => h) (Or.inl ⟨by rfl, ?_⟩) ?_ ?_
   rotate_left
   ·intro w'
    go_simp
    with_reducible rfl
   rotate_left
   ·simp only [Act.put, List.setIfInBounds_toArray, List.set_cons_zero, List.set_cons_succ, zp, zr]
    rfl
   refine zv (i := 17) (N := some 35) (v := ?_) (a' := ?_) #[true, true, true, true, true, true, true, true, true, true, true, true, true, true, true, true, true, true, false, false, false, false] rfl rfl (by kernel_rfl) (fun _ _ _ h => h) (Or.inl ⟨by rfl, ?_⟩) ?_ ?_
   rotate_left
   ·intro w'
    go_simp
    with_reducible rfl
   rotate_left
   ·simp only [Act.put, List.setIfInBounds_toArray, List.set_cons_zero, List.set_cons_succ, zp, zr]
    rfl
   refine zv (i := 18) (N := some 36) (v := ?_) (a' := ?_) #[true, true, true, true, true, true, true, true, true, true, true, true, true, true, true, true, true, true, true, false, false, false] rfl rfl (by kernel_rfl) (fun _ _ _ h => h) (Or.inl ⟨by rfl, ?_⟩) ?_ ?_
   rotate_left
   ·intro w'
    go_simp
    with_reducible rfl
   rotate_left
   ·simp only [Act.put, List.setIfInBounds_toArray, List.set_cons_zero, List.set_cons_succ, zp, zr]
    rfl
   refine zv (i := 19) (N := some 37) (v := ?_) (a' := ?_) #[true, true, true, true, true, true, true, true, true, true, true, true, true, true, true, true, true, true, true, true, false, false] rfl rfl (by kernel_rfl) (fun _ _ _ h => h) (Or.inl ⟨by rfl, ?_⟩) ?_ ?_
   rotate_left
   ·intro w'
    go_simp
    with_reducible rfl
   rotate_left
   ·simp only [Act.put, List.setIfInBounds_toArray, List.set_cons_zero, List.set_cons_succ, zp, zr]
    rfl
   refine zv (i := 20) (N := some 38) (v := ?_) (a' := ?_) #[true, true, true, true, true, true, true, true, true, true, true, true, true, true, true, true, true, true, true, true, true, false] rfl rfl (by kernel_rfl) (fun _ _ _ h => h) (Or.inl ⟨by rfl, ?_⟩) ?_ ?_
   rotate_left
   ·intro w'
    go_simp
    with_reducible rfl
   rotate_left
   ·simp only [Act.put, List.setIfInBounds_toArray, List.set_cons_zero, List.set_cons_succ, zp, zr]
    rfl
   refine zv (i := 21) (N := some 39) (v := ?_) (a' := ?_) #[true, true, true, true, true, true, true, true, true, true, true, true, true, true, true, true, true, true, true, true, true, true] rfl rfl (by kernel_rfl) (fun _ _ _ h => h) (Or.inl ⟨by rfl, ?_⟩) ?_ ?_
   rotate_left
   ·intro w'
    go_simp
    with_reducible rfl
   rotate_left
   ·simp only [Act.put, List.setIfInBounds_toArray, List.set_cons_zero, List.set_cons_succ, zp, zr]
    rfl
   refine done_ (by kernel_rfl) ?_
   go_wp2
   go_loopg [39] 5 (fun kq v39 w' => ∃ (i : Nat) (ns : List Int), v39 = .int .i64 (i : Int) ∧ Aside0 (i + kq = 5 ∧ 4 * i ≤ l2.length) ∧ Aside0 (ns.length = 5 ∧ ∀ j, j < i → ns[j]? = some (rnum ((l2.drop (4 * j)).take 4))) ∧ Aside0 (w'.heap[gn]? = some (.cells (nodeC s0 s1 ns ext) T_ (0, 0))) ∧ Aside0 (Rdr W0 w' gr (l2.drop (4 * i))) ∧ Aside0 (Kept W w' (fun k => k = gr ∨ k = gn)))
   case atStart => exact ⟨0, ns0, rfl, ⟨rfl, Nat.zero_le _⟩, ⟨HN5.out, fun j hj => absurd hj (Nat.not_lt_zero _)⟩, HA5, ⟨HR3.out⟩, HK4⟩
   case round =>
    obtain ⟨i, ns, rfl, HKQ, HNS, HAL, HRL, HKL⟩ := hrel
    cases gk with
    | zero =>
     exact absurd (show 20 ≤ l2.length by have := HKQ.out; omega) HG20.out
    | succ k2 =>
     have hi : i < 5 := by have := HKQ.out; omega
     have HI := Aside0.mk hi
     have hlt : decide ((i : Int) < 5) = true := decide_eq_true (by omega)
     have hlt2 : ((i : Int) < 5) = True := eq_true (by omega)
     have hlt3 : (i < 5) = True := eq_true hi
     clear hi
     by_cases hg : 4 ≤ (l2.drop (4 * i)).length
     ·have HG := Aside0.mk hg
      clear hg
      go_wp2_with (first | ((with_reducible refine zw (N := 41) rfl ?_); refine index_ptr rfl (t := 116) (vs := #[.pointer (some ⟨gn, 2, none⟩), .pointer (some ⟨gn, 3, none⟩), .pointer (some ⟨gn, 4, none⟩), .pointer (some ⟨gn, 5, none⟩), .pointer (some ⟨gn, 6, none⟩)]) (n := i) (v := .pointer (some ⟨gn, 2 + i, none⟩)) rfl (N := 41) rfl rfl rfl Tryd.underlying116 Tryd.underlying115 (by kernel_rfl) HI.out (ptr5 gn HI.out) ?_) | ((with_reducible refine zn (f := 32) rfl ?_); refine zz (some 44) rfl rfl Tryd.func32 (by kernel_rfl) rfl #[.pointer (some ⟨gr, 0, none⟩), .int .i64 4] rfl (by (try simp only [List.map_toArray, List.map_cons, List.map_nil]); first | done | rfl) ?_; refine (num_c W0 wr gr (l2.drop (4 * i)) 4 HRL.out HG.out (by have := HL2.out; rw [List.length_drop]; omega)).mono ?_; rintro e w6 ⟨rfl, hR_, hk_⟩; refine ⟨_, rfl, ?_⟩; have HA6 := Aside0.mk ((hk_.2 gn (zy HAL.out) HNE.out.1).trans HAL.out); have hc6 : w6.cell? ⟨gn, 2 + i, none⟩ = some (.int .i64 (ns.getD i 0)) := (zi HA6.out (2 + i)).trans (nodeC_at HNS.out.1 HI.out); have hf6 := zd HA6.out (2 + i); have HR6 := Aside0.mk (Rdr.set hR_ HNE.out.1 HNE.out.2 (2 + i) (.int .i64 (rnum ((l2.drop (4 * i)).take 4)))); have HA7 := Aside0.mk (blk_set HA6.out (2 + i) (.int .i64 (rnum ((l2.drop (4 * i)).take 4)))); have HK6 := Aside0.mk ((HKL.out.then_ hk_ (fun _ h_ => .inl (.inl h_))).setCell (p := ⟨gn, 2 + i, none⟩) (.inl (.inr rfl)) (.int .i64 (rnum ((l2.drop (4 * i)).take 4)))); clear hR_ hk_))
      go_roundg k2
      case measure => omega
      case rel =>
       refine ⟨i + 1, ns.set i (rnum ((l2.drop (4 * i)).take 4)), ?_, ⟨by have := HKQ.out; omega, by have := HG.out; rw [List.length_drop] at this; omega⟩, ⟨by rw [List.length_set]; exact HNS.out.1, fun j hj => ?_⟩, ⟨?_⟩, ⟨?_⟩, HK6⟩
       ·have h_ := HI.out
        rw [show wrap64 ((i : Int) + 1) = ((i + 1 : Nat) : Int) by unfold wrap64; omega]
       ·by_cases hji : j = i
        ·subst hji
         rw [List.getElem?_set_self (by have := HNS.out.1; have := HI.out; omega)]
        ·rw [List.getElem?_set_ne (Ne.symm hji)]
         exact HNS.out.2 j (by omega)
       ·rw [HA7.out, nodeC_set HNS.out.1 HI.out]
       ·have h_ := HR6.out
        rw [List.drop_drop] at h_
        rwa [show 4 * (i + 1) = 4 * i + 4 by omega]
     ·have HG : Aside0 ((l2.drop (4 * i)).length < 4) := ⟨by omega⟩
      clear hg
      go_wp2_with (first | ((with_reducible refine zw (N := 41) rfl ?_); refine index_ptr rfl (t := 116) (vs := #[.pointer (some ⟨gn, 2, none⟩), .pointer (some ⟨gn, 3, none⟩), .pointer (some ⟨gn, 4, none⟩), .pointer (some ⟨gn, 5, none⟩), .pointer (some ⟨gn, 6, none⟩)]) (n := i) (v := .pointer (some ⟨gn, 2 + i, none⟩)) rfl (N := 41) rfl rfl rfl Tryd.underlying116 Tryd.underlying115 (by kernel_rfl) HI.out (ptr5 gn HI.out) ?_) | (go_at_call 32; refine (num_die W0 wr gr (l2.drop (4 * i)) 4 HRL.out HG.out).mono ?_; rintro e w6 ⟨rfl, hR_, hk_⟩; have HR6 := Aside0.mk hR_; have HK6 := Aside0.mk (HKL.out.then_ hk_ (fun _ h_ => .inl (.inl h_))); clear hR_ hk_))
      exact ⟨rfl, rfl, ⟨_, HR6.out⟩, HK6.out⟩
theorem rnode_some {l l' : List Int} {x : S53} (h : rnode l = some (x, l')) : ∃ s0 l1 s1 l2, rtext l = some (s0, l1) ∧ rtext l1 = some (s1, l2) ∧ 20 ≤ l2.length ∧ x = ⟨s0, s1, rnum (l2.take 4), rnum ((l2.drop 4).take 4), rnum ((l2.drop 8).take 4), rnum ((l2.drop 12).take 4), rnum ((l2.drop 16).take 4)⟩ ∧ l' = l2.drop 20 := by
 unfold rnode at h
 cases h0 : rtext l with
 | none => rw [h0] at h; cases h
 | some p0 =>
  obtain ⟨s0, l1⟩ := p0
  rw [h0] at h
  simp only at h
  cases h1 : rtext l1 with
  | none => rw [h1] at h; cases h
  | some p1 =>
   obtain ⟨s1, l2⟩ := p1
   rw [h1] at h
   simp only at h
   split at h
   ·rename_i h2
    simp only [Option.some.injEq, Prod.mk.injEq] at h
    exact ⟨s0, l1, s1, l2, rfl, h1, h2, h.1.symm, h.2.symm⟩
   ·cases h
theorem rnode_len {l l' : List Int} {x : S53} (h : rnode l = some (x, l')) : l'.length + 20 ≤ l.length := by
 obtain ⟨s0, l1, s1, l2, h0, h1, h2, _, rfl⟩ := rnode_some h
 have h3 := rtext_len h0
 have h4 := rtext_len h1
 rw [List.length_drop]; omega
theorem Rdr.belowW {W0 W w' : World} {gr : Nat} {l : List Int} (h : Rdr W0 W gr l) (hb : Below W.heap.size W w') : Rdr W0 w' gr l := by
 obtain ⟨A, c, h1, h2, h3⟩ := h.cell
 exact ⟨⟨A, c, (hb.block _ (zy h1)).trans h1, h2, h3⟩, h.ge, below_then h.bel h.bel.size hb⟩
theorem Rdr.grown {W0 W W2 : World} {gr : Nat} {l : List Int} {row : Option Nat} (h : Rdr W0 W gr l) (hg : W.grownBy W2 row) (hne : some gr ≠ row) (hge : ∀ k, row = some k → W0.heap.size ≤ k) : Rdr W0 W2 gr l := by
 obtain ⟨A, c, h1, h2, h3⟩ := h.cell
 exact ⟨⟨A, c, blk_grown h1 hg hne, h2, h3⟩, h.ge, pw_below_grown h.bel row h.bel.size hg hge⟩
theorem Rdr.lt {W0 W : World} {gr : Nat} {l : List Int} (h : Rdr W0 W gr l) : gr < W.heap.size := by
 obtain ⟨A, c, h1, h2, h3⟩ := h.cell
 exact zy h1
theorem Kept.alloc3 {W w3 w4 : World} {g3 gr : Nat} (hb : Below W.heap.size W w3) (hk : Kept w3 w4 (fun k => k = gr ∨ k = g3)) (hg : g3 = W.heap.size) : Kept W w4 (fun k => k = gr) :=
 (Kept.of_below hb _).then_ hk (fun k h_ => h_.elim .inl (fun h2_ => .inr (by omega)))
theorem Kd.R_kept2 {α : Type} {d : Kd α} {e B : Nat} {W w' : World} {ok : Nat → Prop} {v : Value} {xs : List α} {q : Nat → Prop} (h : d.R e W B ok v xs) (hk : Kept W w' q) (hn : ∀ k, B ≤ k → q k → False) : d.R e w' B ok v xs := Kd.R_mono (Kd.R_move (Kd.R_bound h) (fun k hk_ => hk.2 k hk_.2.2.1 (hn k hk_.2.1))) (fun _ hk_ => hk_.1)
theorem Kd.R_own_ge {α : Type} {d : Kd α} {e B : Nat} {W : World} {ok : Nat → Prop} {v : Value} {xs : List α} (h : d.R e W B ok v xs) : ∀ k, some k = v.ownBlock → B ≤ k := fun k hk => ((Kd.R_bound h).1 k hk.symm).2.1
def reff : List Int → Option ((Bool × S53) × List Int)
 | [] => none
 | b :: t => if b = 1 then (match rnode t with | none => none | some (x, l') => some ((false, x), l')) else if b = 2 then (match rtext t with | none => none | some (s, l') => some ((true, ⟨s, ⟨#[]⟩, 0, 0, 0, 0, 0⟩), l')) else none
set_option maxHeartbeats 2000000 in
set_option maxRecDepth 100000 in
theorem eget_c (W0 W : World) (gr gn : Nat) (l l' : List Int) (x : Bool × S53) (h : Rdr W0 W gr l) (ok : bytesOk l) (hl : l.length ≤ 281474976710656) (ha : W.heap[gn]? = some (.cells (nodeC ⟨#[]⟩ ⟨#[]⟩ [0, 0, 0, 0, 0] [.bool false]) 67 (0, 0))) (hne : gn ≠ gr) (hge : W0.heap.size ≤ gn) (he : reff l = some (x, l')) :
  Calls Tryd.prog 33 #[.pointer (some ⟨gn, 0, none⟩), .pointer (some ⟨gr, 0, none⟩)] W fun e w' => e = .returned (.tuple #[]) ∧ Rdr W0 w' gr l' ∧ w'.heap[gn]? = some (.cells (nodeC x.2.f0 x.2.f1 [x.2.f2, x.2.f3, x.2.f4, x.2.f5, x.2.f6] [.bool x.1]) 67 (0, 0)) ∧ Kept W w' (fun k => k = gr ∨ k = gn) := by
 cases l with
 | nil => cases he
 | cons b t =>
  have HH := Aside0.mk h
  have HL := Aside0.mk hl
  have HA := Aside0.mk ha
  have HNE := Aside0.mk (And.intro hne hge)
  have HOT : Aside0 (bytesOk t) := ⟨fun y hy => ok y (List.mem_cons_of_mem _ hy)⟩
  have HLT : Aside0 (t.length ≤ 281474976710656) := ⟨by rw [List.length_cons] at hl; omega⟩
  clear h ok hl ha hne hge
  simp only [reff] at he
  split at he
  ·rename_i hb
   subst hb
   have HV : Aside0 (rnum [1] = 1) := ⟨rnum_1 (b := 1) (by omega) (by omega)⟩
   cases hn : rnode t with
   | none => rw [hn] at he; cases he
   | some p0 =>
    obtain ⟨y, l3⟩ := p0
    rw [hn] at he
    simp only [Option.some.injEq, Prod.mk.injEq] at he
    obtain ⟨rfl, rfl⟩ := he
    obtain ⟨s0, l1, s1, l2, he0, he1, he2, rfl, rfl⟩ := rnode_some hn
    have HE0 := Aside0.mk he0
    have HE1 := Aside0.mk he1
    have HE2 := Aside0.mk he2
    clear hn he0 he1 he2
    go_enter Tryd.func33, Tryd.ntmps33
    go_wp2_with (first | ((with_reducible refine zn (f := 32) rfl ?_); refine zz (some 5) rfl rfl Tryd.func32 (by kernel_rfl) rfl #[.pointer (some ⟨gr, 0, none⟩), .int .i64 1] rfl (by (try simp only [List.map_toArray, List.map_cons, List.map_nil]); first | done | rfl) ?_; refine (num_c W0 W gr (1 :: t) 1 HH.out (by simp) HL.out).mono ?_; rintro e w1 ⟨he_, hR_, hk_⟩; rw [show rnum ((1 :: t).take 1) = 1 from HV.out] at he_; subst he_; refine ⟨_, rfl, ?_⟩; have HR1 : Aside0 (Rdr W0 w1 gr t) := ⟨hR_⟩; have HK1 := Aside0.mk hk_; have HA1 := Aside0.mk ((hk_.2 gn (zy HA.out) HNE.out.1).trans HA.out);  clear hR_ hk_) | ((with_reducible refine zn (f := 54) rfl ?_); refine zz (some 14) rfl rfl Tryd.func54 (by kernel_rfl) rfl #[.pointer (some ⟨gn, 0, none⟩), .pointer (some ⟨gr, 0, none⟩)] rfl (by (try simp only [List.map_toArray, List.map_cons, List.map_nil]); first | done | rfl) ?_; refine (get_c W0 w1 gr gn t ⟨#[]⟩ ⟨#[]⟩ [0, 0, 0, 0, 0] [.bool false] 67 HR1.out HOT.out HLT.out HA1.out HNE.out.1 HNE.out.2 rfl s0 s1 l1 l2 HE0.out HE1.out HE2.out).mono ?_; rintro e w2 ⟨rfl, hR_, hA_, hk_⟩; refine ⟨_, rfl, ?_⟩; have HR2 := Aside0.mk hR_; have HA2 := Aside0.mk hA_; have HK2 := Aside0.mk ((HK1.out.mono (fun _ h_ => .inl h_) : Kept W w1 (fun k => k = gr ∨ k = gn)).then_ hk_ (fun _ h_ => .inl h_)); clear hR_ hA_ hk_))
    go_end0
    exact ⟨rfl, HR2.out, HA2.out, HK2.out⟩
  ·split at he
   ·rename_i hb
    subst hb
    have HV : Aside0 (rnum [2] = 2) := ⟨rnum_1 (b := 2) (by omega) (by omega)⟩
    cases hn : rtext t with
    | none => rw [hn] at he; cases he
    | some p0 =>
     obtain ⟨s0, l3⟩ := p0
     rw [hn] at he
     simp only [Option.some.injEq, Prod.mk.injEq] at he
     obtain ⟨rfl, rfl⟩ := he
     have HE0 := Aside0.mk hn
     clear hn
     go_enter Tryd.func33, Tryd.ntmps33
     go_wp2_with (first | ((with_reducible refine zn (f := 32) rfl ?_); refine zz (some 5) rfl rfl Tryd.func32 (by kernel_rfl) rfl #[.pointer (some ⟨gr, 0, none⟩), .int .i64 1] rfl (by (try simp only [List.map_toArray, List.map_cons, List.map_nil]); first | done | rfl) ?_; refine (num_c W0 W gr (2 :: t) 1 HH.out (by simp) HL.out).mono ?_; rintro e w1 ⟨he_, hR_, hk_⟩; rw [show rnum ((2 :: t).take 1) = 2 from HV.out] at he_; subst he_; refine ⟨_, rfl, ?_⟩; have HR1 : Aside0 (Rdr W0 w1 gr t) := ⟨hR_⟩; have HK1 := Aside0.mk hk_; have HA1 := Aside0.mk ((hk_.2 gn (zy HA.out) HNE.out.1).trans HA.out); have hc7 : w1.cell? ⟨gn, 7, none⟩ = some (.bool false) := (zi HA1.out 7).trans rfl; have hf7 := zd HA1.out 7; have HR1s := Aside0.mk (Rdr.set HR1.out HNE.out.1 HNE.out.2 7 (.bool true)); have HA1s : Aside0 ((w1.setCell ⟨gn, 7, none⟩ (.bool true)).heap[gn]? = some (.cells (nodeC ⟨#[]⟩ ⟨#[]⟩ [0, 0, 0, 0, 0] [.bool true]) 67 (0, 0))) := ⟨blk_set HA1.out 7 (.bool true)⟩; have HK1s := Aside0.mk ((HK1.out.mono (fun _ h_ => .inl h_) : Kept W w1 (fun k => k = gr ∨ k = gn)).setCell (p := ⟨gn, 7, none⟩) (.inl (.inr rfl)) (.bool true)); clear hR_ hk_) | ((with_reducible refine zn (f := 55) rfl ?_); refine zz (some 22) rfl rfl Tryd.func55 (by kernel_rfl) rfl #[.pointer (some ⟨gr, 0, none⟩)] rfl (by (try simp only [List.map_toArray, List.map_cons, List.map_nil]); first | done | rfl) ?_; refine (text_c W0 (w1.setCell ⟨gn, 7, none⟩ (.bool true)) gr t _ s0 HR1s.out HOT.out HLT.out HE0.out).mono ?_; rintro e w2 ⟨rfl, hR_, hk_⟩; refine ⟨_, rfl, ?_⟩; have HK2 := Aside0.mk (HK1s.out.then_ hk_ (fun _ h_ => .inl (.inl h_))); have HA2 := Aside0.mk ((hk_.2 gn (zy HA1s.out) HNE.out.1).trans HA1s.out); have hc0 : w2.cell? ⟨gn, 0, none⟩ = some (.string ⟨#[]⟩) := (zi HA2.out 0).trans rfl; have hf0 := zd HA2.out 0; have HR2 := Aside0.mk (Rdr.set hR_ HNE.out.1 HNE.out.2 0 (.string s0)); have HA3 : Aside0 ((w2.setCell ⟨gn, 0, none⟩ (.string s0)).heap[gn]? = some (.cells (nodeC s0 ⟨#[]⟩ [0, 0, 0, 0, 0] [.bool true]) 67 (0, 0))) := ⟨blk_set HA2.out 0 (.string s0)⟩; have HK3 := Aside0.mk (HK2.out.setCell (p := ⟨gn, 0, none⟩) (.inl (.inr rfl)) (.string s0)); clear hR_ hk_))
     go_end0
     exact ⟨rfl, HR2.out, HA3.out, HK3.out⟩
   ·cases he
set_option maxHeartbeats 2000000 in
set_option maxRecDepth 100000 in
theorem eget_die (W0 W : World) (gr gn : Nat) (l : List Int) (h : Rdr W0 W gr l) (ok : bytesOk l) (hl : l.length ≤ 281474976710656) (ha : W.heap[gn]? = some (.cells (nodeC ⟨#[]⟩ ⟨#[]⟩ [0, 0, 0, 0, 0] [.bool false]) 67 (0, 0))) (hne : gn ≠ gr) (hge : W0.heap.size ≤ gn) (he : reff l = none) :
  Calls Tryd.prog 33 #[.pointer (some ⟨gn, 0, none⟩), .pointer (some ⟨gr, 0, none⟩)] W fun e w' => e = .panicked [{ v := ranOut_, recovered := false }] ∧ (∃ l', Rdr W0 w' gr l') ∧ Kept W w' (fun k => k = gr ∨ k = gn) := by
 have hu := Tryd.underlying88
 cases l with
 | nil =>
  have HH := Aside0.mk h
  clear h ok hl ha hne hge he
  go_enter Tryd.func33, Tryd.ntmps33
  go_wp2_with (go_at_call 32; refine (num_die W0 W gr [] 1 HH.out (by simp)).mono ?_; rintro e w1 ⟨rfl, hR_, hk_⟩; have HR1 := Aside0.mk hR_; have HK1 := Aside0.mk hk_; clear hR_ hk_)
  exact ⟨rfl, rfl, ⟨_, HR1.out⟩, HK1.out.mono (fun _ h_ => .inl h_)⟩
 | cons b t =>
  have HH := Aside0.mk h
  have HL := Aside0.mk hl
  have HA := Aside0.mk ha
  have HNE := Aside0.mk (And.intro hne hge)
  have HOT : Aside0 (bytesOk t) := ⟨fun y hy => ok y (List.mem_cons_of_mem _ hy)⟩
  have HLT : Aside0 (t.length ≤ 281474976710656) := ⟨by rw [List.length_cons] at hl; omega⟩
  have hb0 := ok b (by simp)
  clear h ok hl ha hne hge
  simp only [reff] at he
  split at he
  ·rename_i hb
   subst hb
   have HV : Aside0 (rnum [1] = 1) := ⟨rnum_1 (b := 1) (by omega) (by omega)⟩
   cases hn : rnode t with
   | none =>
    have HE0 := Aside0.mk hn
    clear hn he hb0
    go_enter Tryd.func33, Tryd.ntmps33
    go_wp2_with (first | ((with_reducible refine zn (f := 32) rfl ?_); refine zz (some 5) rfl rfl Tryd.func32 (by kernel_rfl) rfl #[.pointer (some ⟨gr, 0, none⟩), .int .i64 1] rfl (by (try simp only [List.map_toArray, List.map_cons, List.map_nil]); first | done | rfl) ?_; refine (num_c W0 W gr (1 :: t) 1 HH.out (by simp) HL.out).mono ?_; rintro e w1 ⟨he_, hR_, hk_⟩; rw [show rnum ((1 :: t).take 1) = 1 from HV.out] at he_; subst he_; refine ⟨_, rfl, ?_⟩; have HR1 : Aside0 (Rdr W0 w1 gr t) := ⟨hR_⟩; have HK1 := Aside0.mk hk_; have HA1 := Aside0.mk ((hk_.2 gn (zy HA.out) HNE.out.1).trans HA.out);  clear hR_ hk_) | (go_at_call 54; refine (get_die W0 w1 gr gn t ⟨#[]⟩ ⟨#[]⟩ [0, 0, 0, 0, 0] [.bool false] 67 HR1.out HOT.out HLT.out HA1.out HNE.out.1 HNE.out.2 rfl HE0.out).mono ?_; rintro e w2 ⟨rfl, hR_, hk_⟩; have HR2 := Aside0.mk hR_; have HK2 := Aside0.mk ((HK1.out.mono (fun _ h_ => .inl h_) : Kept W w1 (fun k => k = gr ∨ k = gn)).then_ hk_ (fun _ h_ => .inl h_)); clear hR_ hk_))
    exact ⟨rfl, rfl, HR2.out, HK2.out⟩
   | some p0 => rw [hn] at he; cases he
  ·rename_i hb1
   split at he
   ·rename_i hb
    subst hb
    have HV : Aside0 (rnum [2] = 2) := ⟨rnum_1 (b := 2) (by omega) (by omega)⟩
    cases hn : rtext t with
    | none =>
     have HE0 := Aside0.mk hn
     clear hn he hb0 hb1
     go_enter Tryd.func33, Tryd.ntmps33
     go_wp2_with (first | ((with_reducible refine zn (f := 32) rfl ?_); refine zz (some 5) rfl rfl Tryd.func32 (by kernel_rfl) rfl #[.pointer (some ⟨gr, 0, none⟩), .int .i64 1] rfl (by (try simp only [List.map_toArray, List.map_cons, List.map_nil]); first | done | rfl) ?_; refine (num_c W0 W gr (2 :: t) 1 HH.out (by simp) HL.out).mono ?_; rintro e w1 ⟨he_, hR_, hk_⟩; rw [show rnum ((2 :: t).take 1) = 2 from HV.out] at he_; subst he_; refine ⟨_, rfl, ?_⟩; have HR1 : Aside0 (Rdr W0 w1 gr t) := ⟨hR_⟩; have HK1 := Aside0.mk hk_; have HA1 := Aside0.mk ((hk_.2 gn (zy HA.out) HNE.out.1).trans HA.out); have hc7 : w1.cell? ⟨gn, 7, none⟩ = some (.bool false) := (zi HA1.out 7).trans rfl; have hf7 := zd HA1.out 7; have HR1s := Aside0.mk (Rdr.set HR1.out HNE.out.1 HNE.out.2 7 (.bool true)); have HA1s : Aside0 ((w1.setCell ⟨gn, 7, none⟩ (.bool true)).heap[gn]? = some (.cells (nodeC ⟨#[]⟩ ⟨#[]⟩ [0, 0, 0, 0, 0] [.bool true]) 67 (0, 0))) := ⟨blk_set HA1.out 7 (.bool true)⟩; have HK1s := Aside0.mk ((HK1.out.mono (fun _ h_ => .inl h_) : Kept W w1 (fun k => k = gr ∨ k = gn)).setCell (p := ⟨gn, 7, none⟩) (.inl (.inr rfl)) (.bool true)); clear hR_ hk_) | (go_at_call 55; refine (text_die W0 (w1.setCell ⟨gn, 7, none⟩ (.bool true)) gr t HR1s.out HOT.out HLT.out HE0.out).mono ?_; rintro e w2 ⟨rfl, hR_, hk_⟩; have HR2 := Aside0.mk hR_; have HK2 := Aside0.mk (HK1s.out.then_ hk_ (fun _ h_ => .inl (.inl h_))); clear hR_ hk_))
     exact ⟨rfl, rfl, HR2.out, HK2.out⟩
    | some p0 => rw [hn] at he; cases he
   ·rename_i hb2
    obtain ⟨nb, hnb, h1, h2⟩ : ∃ nb : Nat, rnum [b] = ((nb : Nat) : Int) ∧ nb ≠ 1 ∧ nb ≠ 2 := ⟨b.toNat, rnum_1 hb0.1 hb0.2, by omega, by omega⟩
    have HV := Aside0.mk hnb
    have q1 : ((nb : Int) == 1) = false := beq_eq_false_iff_ne.mpr (by omega)
    have q2 : ((nb : Int) == 2) = false := beq_eq_false_iff_ne.mpr (by omega)
    have q3 : ((nb : Int) = 1) = False := eq_false (by omega)
    have q4 : ((nb : Int) = 2) = False := eq_false (by omega)
    have q5 : (nb = 1) = False := eq_false h1
    have q6 : (nb = 2) = False := eq_false h2
    clear hnb h1 h2 hb0 hb1 hb2 he
    go_enter Tryd.func33, Tryd.ntmps33
    go_wp2_with ((with_reducible refine zn (f := 32) rfl ?_); refine zz (some 5) rfl rfl Tryd.func32 (by kernel_rfl) rfl #[.pointer (some ⟨gr, 0, none⟩), .int .i64 1] rfl (by (try simp only [List.map_toArray, List.map_cons, List.map_nil]); first | done | rfl) ?_; refine (num_c W0 W gr (b :: t) 1 HH.out (by simp) HL.out).mono ?_; rintro e w1 ⟨he_, hR_, hk_⟩; rw [show rnum ((b :: t).take 1) = ((nb : Nat) : Int) from HV.out] at he_; subst he_; refine ⟨_, rfl, ?_⟩; have HR1 : Aside0 (Rdr W0 w1 gr t) := ⟨hR_⟩; have HK1 := Aside0.mk hk_; have HA1 := Aside0.mk ((hk_.2 gn (zy HA.out) HNE.out.1).trans HA.out);  clear hR_ hk_)
    exact ⟨rfl, rfl, ⟨_, HR1.out⟩, HK1.out.mono (fun _ h_ => .inl h_)⟩
def reffs : Nat → List Int → List S55 → Option (List S55 × List Int)
 | 0, l, acc => some (acc, l)
 | n + 1, l, acc => match reff l with
  | none => none
  | some (x, l') => reffs n l' (acc ++ [⟨x.1, x.2⟩])
theorem reffs_die {n : Nat} {l : List Int} {acc : List S55} (h : reff l = none) : reffs (n + 1) l acc = none := by simp only [reffs, h]
theorem reffs_go {n : Nat} {l l' : List Int} {x : Bool × S53} {acc : List S55} (h : reff l = some (x, l')) : reffs (n + 1) l acc = reffs n l' (acc ++ [⟨x.1, x.2⟩]) := by simp only [reffs, h]
theorem reff_keep {l l' : List Int} {x : Bool × S53} (h : reff l = some (x, l')) (ok : bytesOk l) : bytesOk l' ∧ l'.length ≤ l.length := by
 cases l with
 | nil => cases h
 | cons b t =>
  have okt : bytesOk t := fun y hy => ok y (List.mem_cons_of_mem _ hy)
  simp only [reff] at h
  split at h
  ·cases hn : rnode t with
   | none => rw [hn] at h; cases h
   | some p =>
    obtain ⟨y, l3⟩ := p
    rw [hn] at h
    simp only [Option.some.injEq, Prod.mk.injEq] at h
    obtain ⟨s0, l1, s1, l2, h0, h1, h2, _, e⟩ := rnode_some hn
    have h3 := rnode_len hn
    rw [← h.2]
    refine ⟨?_, by rw [List.length_cons]; omega⟩
    rw [e]
    exact bytesOk.drop (rtext_ok h1 (rtext_ok h0 okt)) 20
  ·split at h
   ·cases hn : rtext t with
    | none => rw [hn] at h; cases h
    | some p =>
     obtain ⟨y, l3⟩ := p
     rw [hn] at h
     simp only [Option.some.injEq, Prod.mk.injEq] at h
     have h3 := rtext_len hn
     rw [← h.2]
     exact ⟨rtext_ok hn okt, by rw [List.length_cons]; omega⟩
   ·cases h
/-- The reading function's outcome: the number and the effects, and what is left. -/
def rtxn (l : List Int) : Option (Int × List S55 × List Int) := if l.length < 6 then none else (reffs (rnum ((l.drop 4).take 2)).toNat (l.drop 6) []).map fun p => (rnum (l.take 4), p.1, p.2)
def TxnT (W0 W : World) (gt : Nat) (l : List Int) (o : Option (List Int)) (w' : World) : Prop :=
 Kept W w' (fun k => k = gt) ∧ Below W0.heap.size W0 w' ∧ ((∃ z xs v l', o = some l' ∧ rtxn l = some (z, xs, l') ∧ w'.heap[gt]? = some (.cells #[.int .i64 z, v] 25 (0, 0)) ∧ k55.R 55 w' (W.heap.size + 2) (fun _ => True) v xs) ∨ (o = none ∧ rtxn l = none))
set_option maxHeartbeats 4000000 in
set_option maxRecDepth 100000 in
theorem txn_f (W0 W : World) (gt : Nat) (l : List Int) (ok : bytesOk l) (hl : l.length ≤ 2000000) (hcn : ∃ cn : Nat, cn ≤ 100000 ∧ rnum ((l.drop 4).take 2) = (cn : Int)) (hs : W.heap[gt]? = some (.cells #[.int .i64 0, .slice none 0 0] 25 (0, 0))) (hge : W0.heap.size ≤ gt) : GoodF 31 #[.pointer (some ⟨gt, 0, none⟩)] W0 W l (TxnT W0 W gt l) := by
 intro W1 gr hgr hR hB hok
 obtain ⟨cn, hcb, hcn⟩ := hcn
 have HCB := Aside0.mk hcb
 have HCN := Aside0.mk hcn
 have HH := Aside0.mk hR
 have HB := Aside0.mk hB
 have HOK := Aside0.mk hok
 have HL := Aside0.mk hl
 have HL48 : Aside0 (l.length ≤ 281474976710656) := ⟨by omega⟩
 have HL49 : Aside0 ((l.drop 4).length ≤ 281474976710656) := ⟨by rw [List.length_drop]; omega⟩
 have HS1 := Aside0.mk ((hB.block _ (zy hs)).trans hs)
 have HNE : Aside0 (¬ gt = gr ∧ gt < W.heap.size ∧ gr = W.heap.size + 1) := ⟨by have := zy hs; omega⟩
 have HW1 : Aside0 (W.heap.size + 2 ≤ W1.heap.size) := ⟨by have := Rdr.lt hR; omega⟩
 have HBO := Aside0.mk ok
 have HGE := Aside0.mk hge
 clear hR hB hok hl hs ok hge hcn hcb
 by_cases h4 : 4 ≤ l.length
 ·have HL4 := Aside0.mk h4
  by_cases h6 : 2 ≤ (l.drop 4).length
  ·have HL6 := Aside0.mk h6
   have H6 : Aside0 (¬ l.length < 6) := ⟨by rw [List.length_drop] at h6; omega⟩
   clear h4 h6
   go_enter Tryd.func31, Tryd.ntmps31
   go_wp2_with (first | ((with_reducible refine zn (f := 32) rfl ?_); refine zz (some 5) rfl rfl Tryd.func32 (by kernel_rfl) rfl #[.pointer (some ⟨gr, 0, none⟩), .int .i64 4] rfl (by (try simp only [List.map_toArray, List.map_cons, List.map_nil]); first | done | rfl) ?_; refine (num_c W0 W1 gr l 4 HH.out HL4.out HL48.out).mono ?_; rintro e w1 ⟨rfl, hR_, hk_⟩; refine ⟨_, rfl, ?_⟩; have HT1 := Aside0.mk ((hk_.2 gt (zy HS1.out) HNE.out.1).trans HS1.out); have HR1 := Aside0.mk (Rdr.set hR_ HNE.out.1 HGE.out 0 (.int .i64 (rnum (l.take 4)))); have HT1s : Aside0 ((w1.setCell ⟨gt, 0, none⟩ (.int .i64 (rnum (l.take 4)))).heap[gt]? = some (.cells #[.int .i64 (rnum (l.take 4)), .slice none 0 0] 25 (0, 0))) := ⟨blk_set HT1.out 0 _⟩; have hct : w1.cell? ⟨gt, 0, none⟩ = some (.int .i64 0) := (zi HT1.out 0).trans rfl; have hft := zd HT1.out 0; have HK1 := Aside0.mk ((hk_.mono (fun _ h_ => .inl h_) : Kept W1 w1 (fun k => k = gr ∨ k = gt)).setCell (p := ⟨gt, 0, none⟩) (.inl (.inr rfl)) (.int .i64 (rnum (l.take 4)))); clear hR_ hk_) | ((with_reducible refine zn (f := 32) rfl ?_); refine zz (some 8) rfl rfl Tryd.func32 (by kernel_rfl) rfl #[.pointer (some ⟨gr, 0, none⟩), .int .i64 2] rfl (by (try simp only [List.map_toArray, List.map_cons, List.map_nil]); first | done | rfl) ?_; refine (num_c W0 (w1.setCell ⟨gt, 0, none⟩ (.int .i64 (rnum (l.take 4)))) gr (l.drop 4) 2 HR1.out HL6.out HL49.out).mono ?_; rintro e w2 ⟨he_, hR_, hk_⟩; rw [HCN.out] at he_; subst he_; refine ⟨_, rfl, ?_⟩; (rw [List.drop_drop] at hR_); have HR2 := Aside0.mk hR_; have HT2 := Aside0.mk ((hk_.2 gt (zy HT1s.out) HNE.out.1).trans HT1s.out); have HK2 := Aside0.mk (HK1.out.then_ hk_ (fun _ h_ => .inl (.inl h_))); clear hR_ hk_ hct hft))
   go_loopg [9] cn (fun kq v9 w' => ∃ (i : Nat) (l' : List Int) (acc : List S55) (v : Value), v9 = .int .i64 (i : Int) ∧ Aside0 (i + kq = cn ∧ acc.length = i) ∧ Aside0 (reffs kq l' acc = reffs cn (l.drop 6) []) ∧ Aside0 (l'.length ≤ l.length) ∧ Aside0 (bytesOk l') ∧ Aside0 (Rdr W0 w' gr l') ∧ Aside0 (w'.heap[gt]? = some (.cells #[.int .i64 (rnum (l.take 4)), v] 25 (0, 0))) ∧ Aside0 (k55.R 55 w' W1.heap.size (fun _ => True) v acc) ∧ Aside0 (Kept W1 w' (fun k => k = gr ∨ k = gt)))
   case atStart => exact ⟨0, l.drop 6, [], _, rfl, ⟨by omega, rfl⟩, ⟨rfl⟩, ⟨by rw [List.length_drop]; omega⟩, ⟨bytesOk.drop HBO.out 6⟩, HR2, HT2, ⟨Kd.R_nil _ _ _ _ _⟩, HK2⟩
   case round =>
    obtain ⟨i, l', acc, v, rfl, HLQ, HRN, HLE, HO, HRL, HTL, HVL, HKL⟩ := hrel
    obtain ⟨Av, cv, ev⟩ := Kd.R_slice HVL.out
    subst ev
    have HLN : Aside0 (l'.length ≤ 281474976710656) := ⟨by have := HLE.out; have := HL.out; omega⟩
    cases gk with
    | zero =>
     have hlt : decide ((i : Int) < (cn : Int)) = false := decide_eq_false (by have := HLQ.out; omega)
     have hlt2 : ((i : Int) < (cn : Int)) = False := eq_false (by have := HLQ.out; omega)
     have hlt3 : (i < cn) = False := eq_false (by have := HLQ.out; omega)
     go_wp2
     go_end0
     refine .inl ⟨_, l', rfl, HRL.out, ⟨?_, HRL.out.bel, .inl ⟨_, acc, _, l', rfl, ?_, HTL.out, Kd.R_lower HVL.out HW1.out⟩⟩, ?_⟩
     ·exact (Kept.of_below HB.out _).then_ HKL.out (fun k h_ => h_.elim (fun h2_ => .inr (by have := HNE.out; omega)) .inl)
     ·unfold rtxn
      rw [if_neg H6.out, HCN.out, Int.toNat_natCast, ← HRN.out]
      rfl
     ·exact (HKL.out.2 _ (zy HOK.out) (by have := HNE.out; omega)).trans HOK.out
    | succ k2 =>
     have hlt : decide ((i : Int) < (cn : Int)) = true := decide_eq_true (by have := HLQ.out; omega)
     have hlt2 : ((i : Int) < (cn : Int)) = True := eq_true (by have := HLQ.out; omega)
     have hlt3 : (i < cn) = True := eq_true (by have := HLQ.out; omega)
     cases hn : reff l' with
     | none =>
      have HE0 := Aside0.mk hn
      clear hn
      go_wp2_with (first | ((with_reducible refine zw (N := 3) rfl ?_); refine Go.Proofs.YtejecjjimggjeaaDoorH.alloc_arr rfl (t := 67) rfl (N := 3) rfl (zs := #[.string ⟨#[]⟩, .string ⟨#[]⟩, .int .i64 0, .int .i64 0, .int .i64 0, .int .i64 0, .int .i64 0, .bool false]) (n := 8) (by kernel_rfl) ?_; intro g3 hg3 w3 hA_ hb_ _; have HA3 : Aside0 (w3.heap[g3]? = some (.cells (nodeC ⟨#[]⟩ ⟨#[]⟩ [0, 0, 0, 0, 0] [.bool false]) 67 (0, 0))) := ⟨hA_⟩; have HG3 := Aside0.mk hg3; have HB3 := Aside0.mk hb_; have HR3 := Aside0.mk (Rdr.belowW HRL.out hb_); clear hA_ hb_ hg3) | (go_at_call 33; refine (eget_die W0 w3 gr g3 l' HR3.out HO.out HLN.out HA3.out (by have h_ := Rdr.lt HRL.out; have h2_ := HG3.out; omega) (by have h_ := HRL.out.bel.size; have h2_ := HG3.out; omega) HE0.out).mono ?_; rintro e w4 ⟨rfl, hR_, hk_⟩; have HR4 := Aside0.mk hR_; have HK4 := Aside0.mk (Kept.alloc3 HB3.out hk_ HG3.out); clear hR_ hk_))
      refine ⟨rfl, .inr ⟨rfl, ⟨?_, ?_, .inr ⟨rfl, ?_⟩⟩, ?_⟩⟩
      ·exact (Kept.of_below HB.out _).then_ (HKL.out.then_ HK4.out (fun k h_ => .inl (.inl h_))) (fun k h_ => h_.elim (fun h2_ => .inr (by have := HNE.out; omega)) .inl)
      ·obtain ⟨l3, h3⟩ := HR4.out
       exact h3.bel
      ·unfold rtxn
       rw [if_neg H6.out, HCN.out, Int.toNat_natCast, ← HRN.out, reffs_die HE0.out]
       rfl
      ·exact ((HKL.out.then_ HK4.out (fun k h_ => .inl (.inl h_))).2 _ (zy HOK.out) (by have := HNE.out; omega)).trans HOK.out
     | some p0 =>
      obtain ⟨x, l3⟩ := p0
      have HE0 := Aside0.mk hn
      clear hn
      go_wp2_with (first | ((with_reducible refine zw (N := 3) rfl ?_); refine Go.Proofs.YtejecjjimggjeaaDoorH.alloc_arr rfl (t := 67) rfl (N := 3) rfl (zs := #[.string ⟨#[]⟩, .string ⟨#[]⟩, .int .i64 0, .int .i64 0, .int .i64 0, .int .i64 0, .int .i64 0, .bool false]) (n := 8) (by kernel_rfl) ?_; intro g3 hg3 w3 hA_ hb_ _; have HA3 : Aside0 (w3.heap[g3]? = some (.cells (nodeC ⟨#[]⟩ ⟨#[]⟩ [0, 0, 0, 0, 0] [.bool false]) 67 (0, 0))) := ⟨hA_⟩; have HG3 := Aside0.mk hg3; have HB3 := Aside0.mk hb_; have HR3 := Aside0.mk (Rdr.belowW HRL.out hb_); clear hA_ hb_ hg3) | ((with_reducible refine zn (f := 33) rfl ?_); refine zz (some 12) rfl rfl Tryd.func33 (by kernel_rfl) rfl #[.pointer (some ⟨g3, 0, none⟩), .pointer (some ⟨gr, 0, none⟩)] rfl (by (try simp only [List.map_toArray, List.map_cons, List.map_nil]); first | done | rfl) ?_; refine (eget_c W0 w3 gr g3 l' l3 x HR3.out HO.out HLN.out HA3.out (by have h_ := Rdr.lt HRL.out; have h2_ := HG3.out; omega) (by have h_ := HRL.out.bel.size; have h2_ := HG3.out; omega) HE0.out).mono ?_; rintro e w4 ⟨rfl, hR_, hA_, hk_⟩; refine ⟨_, rfl, ?_⟩; have HR4 := Aside0.mk hR_; have HA4 := Aside0.mk hA_; have HK4 := Aside0.mk (Kept.alloc3 HB3.out hk_ HG3.out); have HT4 := Aside0.mk ((HK4.out.2 gt (zy HTL.out) HNE.out.1).trans HTL.out); have HV4 := Aside0.mk (Kd.R_kept2 HVL.out HK4.out (fun k h1_ h2_ => by have := HNE.out.2; have := HW1.out; omega)); have hct : w4.cell? ⟨gt, 1, none⟩ = some (.slice Av acc.length cv) := (zi HT4.out 1).trans rfl; have hft := zd HT4.out 1; have hn0 : w4.cell? ⟨g3, 0, none⟩ = some (.string x.2.f0) := (zi HA4.out 0).trans rfl; have hn1 : w4.cell? ⟨g3, 1, none⟩ = some (.string x.2.f1) := (zi HA4.out 1).trans rfl; have hn2 : w4.cell? ⟨g3, 2, none⟩ = some (.int .i64 x.2.f2) := (zi HA4.out 2).trans rfl; have hn3 : w4.cell? ⟨g3, 3, none⟩ = some (.int .i64 x.2.f3) := (zi HA4.out 3).trans rfl; have hn4 : w4.cell? ⟨g3, 4, none⟩ = some (.int .i64 x.2.f4) := (zi HA4.out 4).trans rfl; have hn5 : w4.cell? ⟨g3, 5, none⟩ = some (.int .i64 x.2.f5) := (zi HA4.out 5).trans rfl; have hn6 : w4.cell? ⟨g3, 6, none⟩ = some (.int .i64 x.2.f6) := (zi HA4.out 6).trans rfl; have hn7 : w4.cell? ⟨g3, 7, none⟩ = some (.bool x.1) := (zi HA4.out 7).trans rfl; clear hR_ hA_ hk_) | ((with_reducible refine gate_builtin (b := .append) (xs := #[.tmp 14, .tmp 21]) rfl ?_); at_builtin; refine Kd.R_append k55 (w0 := w4) W1.heap.size rfl (.tmp 14) (.tmp 21) 23 55 (.agg #[.bool false, .string ⟨#[]⟩, .string ⟨#[]⟩, .int .i64 0, .int .i64 0, .int .i64 0, .int .i64 0, .int .i64 0]) 80 rfl Tryd.underlying23 info55 rfl (by decide) (by omega) (.slice Av acc.length cv) acc (⟨x.1, x.2⟩ : S55) [.bool x.1, .string x.2.f0, .string x.2.f1, .int .i64 x.2.f2, .int .i64 x.2.f3, .int .i64 x.2.f4, .int .i64 x.2.f5, .int .i64 x.2.f6] (fun _ => True) (fun _ => False) rfl (by first | (go_simp; done) | (go_simp; rfl)) ?aP (fun _ hk => hk.elim) (fun _ _ => trivial) HV4.out (Below.refl _ _) ?aS ?aL ?_; (case aP => exact k55_mkM _ _ _ (⟨x.1, x.2⟩ : S55)); (case aS => have h1_ := HKL.out.1; have h2_ := HK4.out.1; omega); (case aL => have := HLQ.out; have := HCB.out; omega); intro v6 w6 hr6_ hb6_ hg6_ _; obtain ⟨A6, c6, e6_⟩ := Kd.R_slice hr6_; subst e6_; have HV6 := Aside0.mk hr6_; have HG6 := Aside0.mk hg6_; have HT6 := Aside0.mk (blk_grown HT4.out hg6_ (fun e_ => by have h1_ := Kd.R_own_ge HV4.out gt e_; have := HNE.out.2; have := HW1.out; omega)); have hct6 : w6.cell? ⟨gt, 1, none⟩ = some (.slice Av acc.length cv) := (zi HT6.out 1).trans rfl; have hft6 := zd HT6.out 1; clear hr6_ hb6_ hg6_ hct hft hn0 hn1 hn2 hn3 hn4 hn5 hn6 hn7))
      go_roundg k2
      case measure => omega
      case rel =>
       have hke := reff_keep HE0.out HO.out
       refine ⟨i + 1, l3, acc ++ [(⟨x.1, x.2⟩ : S55)], _, ?_, ⟨?_, ?_⟩, ⟨?_⟩, ⟨?_⟩, ⟨hke.1⟩, ⟨?_⟩, ⟨blk_set HT6.out 1 _⟩, ⟨?_⟩, ⟨?_⟩⟩
       ·have h_ := HLQ.out; have h2_ := HCB.out
        rw [show wrap64 ((i : Int) + 1) = ((i + 1 : Nat) : Int) by unfold wrap64; omega]
       ·have h_ := HLQ.out; omega
       ·have h_ := HLQ.out; rw [List.length_append, List.length_singleton]; omega
       ·rw [← HRN.out, reffs_go HE0.out]
       ·have h_ := HLE.out; omega
       ·exact Rdr.set (Rdr.grown HR4.out HG6.out (fun e_ => by have h1_ := Kd.R_own_ge HV4.out gr e_; have := HNE.out.2; have := HW1.out; omega) (fun k_ hk_ => by have h1_ := Kd.R_own_ge HV4.out k_ hk_.symm; have h2_ := HGE.out; have := HNE.out.2; have := HW1.out; omega)) HNE.out.1 HGE.out 1 _
       ·have h_ : k55.R 55 (w6.setCell ⟨gt, 1, none⟩ (.slice A6 (acc.length + 1) c6)) W1.heap.size (fun _ => True) (.slice A6 (acc ++ [(⟨x.1, x.2⟩ : S55)]).length c6) (acc ++ [(⟨x.1, x.2⟩ : S55)]) := Kd.R_mono (Kd.R_far (Kd.R_bound HV6.out) (p := ⟨gt, 1, none⟩) (fun k hk_ e_ => by have h1_ := hk_.2.1; have := HNE.out.2; have := HW1.out; simp only at e_; omega) _) (fun _ _ => trivial)
        have e_ : (acc ++ [(⟨x.1, x.2⟩ : S55)]).length = acc.length + 1 := by rw [List.length_append, List.length_singleton]
        rw [e_] at h_
        exact h_
       ·exact (Kept.of_grown HG6.out (HKL.out.then_ HK4.out (fun k h_ => .inl (.inl h_))) (fun k_ hk_ => .inr (Kd.R_own_ge HV4.out k_ hk_.symm))).setCell (p := ⟨gt, 1, none⟩) (.inl (.inr rfl)) _
  ·have HD : Aside0 ((l.drop 4).length < 2) := ⟨by omega⟩
   have H6 : Aside0 (l.length < 6) := ⟨by rw [List.length_drop] at h6; omega⟩
   clear h4 h6
   go_enter Tryd.func31, Tryd.ntmps31
   go_wp2_with (first | ((with_reducible refine zn (f := 32) rfl ?_); refine zz (some 5) rfl rfl Tryd.func32 (by kernel_rfl) rfl #[.pointer (some ⟨gr, 0, none⟩), .int .i64 4] rfl (by (try simp only [List.map_toArray, List.map_cons, List.map_nil]); first | done | rfl) ?_; refine (num_c W0 W1 gr l 4 HH.out HL4.out HL48.out).mono ?_; rintro e w1 ⟨rfl, hR_, hk_⟩; refine ⟨_, rfl, ?_⟩; have HT1 := Aside0.mk ((hk_.2 gt (zy HS1.out) HNE.out.1).trans HS1.out); have HR1 := Aside0.mk (Rdr.set hR_ HNE.out.1 HGE.out 0 (.int .i64 (rnum (l.take 4)))); have HT1s : Aside0 ((w1.setCell ⟨gt, 0, none⟩ (.int .i64 (rnum (l.take 4)))).heap[gt]? = some (.cells #[.int .i64 (rnum (l.take 4)), .slice none 0 0] 25 (0, 0))) := ⟨blk_set HT1.out 0 _⟩; have hct : w1.cell? ⟨gt, 0, none⟩ = some (.int .i64 0) := (zi HT1.out 0).trans rfl; have hft := zd HT1.out 0; have HK1 := Aside0.mk ((hk_.mono (fun _ h_ => .inl h_) : Kept W1 w1 (fun k => k = gr ∨ k = gt)).setCell (p := ⟨gt, 0, none⟩) (.inl (.inr rfl)) (.int .i64 (rnum (l.take 4)))); clear hR_ hk_) | (go_at_call 32; refine (num_die W0 (w1.setCell ⟨gt, 0, none⟩ (.int .i64 (rnum (l.take 4)))) gr (l.drop 4) 2 HR1.out HD.out).mono ?_; rintro e w2 ⟨rfl, hR_, hk_⟩; have HR2 := Aside0.mk hR_; have HK2 := Aside0.mk (HK1.out.then_ hk_ (fun _ h_ => .inl (.inl h_))); clear hR_ hk_ hct hft))
   refine ⟨rfl, .inr ⟨rfl, ⟨?_, HR2.out.bel, .inr ⟨rfl, ?_⟩⟩, ?_⟩⟩
   ·exact (Kept.of_below HB.out _).then_ HK2.out (fun k h_ => h_.elim (fun h2_ => .inr (by have := HNE.out; omega)) .inl)
   ·unfold rtxn
    exact if_pos H6.out
   ·exact (HK2.out.2 _ (zy HOK.out) (by have := HNE.out; omega)).trans HOK.out
 ·have HD : Aside0 (l.length < 4) := ⟨by omega⟩
  clear h4
  go_enter Tryd.func31, Tryd.ntmps31
  go_wp2_with (go_at_call 32; refine (num_die W0 W1 gr l 4 HH.out HD.out).mono ?_; rintro e w1 ⟨rfl, hR_, hk_⟩; have HR1 := Aside0.mk hR_; have HK1 := Aside0.mk (hk_.mono (fun _ h_ => .inl h_) : Kept W1 w1 (fun k => k = gr ∨ k = gt)); clear hR_ hk_)
  refine ⟨rfl, .inr ⟨rfl, ⟨?_, HR1.out.bel, .inr ⟨rfl, ?_⟩⟩, ?_⟩⟩
  ·exact (Kept.of_below HB.out _).then_ HK1.out (fun k h_ => h_.elim (fun h2_ => .inr (by have := HNE.out; omega)) .inl)
  ·unfold rtxn
   exact if_pos (by have := HD.out; omega)
  ·exact (HK1.out.2 _ (zy HOK.out) (by have := HNE.out; omega)).trans HOK.out
theorem numStep_n (v : Nat) (b : Int) (hv : v < 72057594037927936) (h0 : 0 ≤ b) (h1 : b ≤ 255) : numStep (v : Int) b = ((v * 256 + b.toNat : Nat) : Int) := by
 obtain ⟨c, rfl⟩ := Int.eq_ofNat_of_zero_le h0
 have e1 : IntKind.u64.wrap ((v : Int) * 256) = ((v * 256 : Nat) : Int) := by
  show ((v : Int) * 256) % 18446744073709551616 = _
  omega
 have e2 : IntKind.u64.wrap (c : Int) = (c : Int) := by
  show (c : Int) % 18446744073709551616 = _
  omega
 have e3 : v * 256 ||| c = v * 256 + c := by
  have := Nat.two_pow_add_eq_or_of_lt (i := 8) (b := c) (by omega) v
  rw [show (2 : Nat) ^ 8 = 256 from rfl, Nat.mul_comm 256 v] at this
  exact this.symm
 unfold numStep
 rw [e1, e2]
 unfold bits
 have e4 : ((BitVec.ofInt IntKind.u64.bits ((v * 256 : Nat) : Int)) ||| (BitVec.ofInt IntKind.u64.bits (c : Int))).toNat = v * 256 + c := by
  rw [BitVec.toNat_or, BitVec.ofInt_natCast, BitVec.ofInt_natCast, BitVec.toNat_ofNat, BitVec.toNat_ofNat]
  show (v * 256 % 18446744073709551616) ||| (c % 18446744073709551616) = _
  rw [Nat.mod_eq_of_lt (by omega), Nat.mod_eq_of_lt (by omega), e3]
 simp only [e4]
 show (((v * 256 + c : Nat) : Int)) % 18446744073709551616 = _
 rw [Int.toNat_natCast]
 omega
theorem rnum_2 {a b : Int} (ha : 0 ≤ a ∧ a ≤ 255) (hb : 0 ≤ b ∧ b ≤ 255) : ∃ cn : Nat, cn ≤ 100000 ∧ rnum [a, b] = (cn : Int) := by
 have h1 := numStep_n 0 a (by omega) ha.1 ha.2
 have h2 := numStep_n (0 * 256 + a.toNat) b (by omega) hb.1 hb.2
 refine ⟨(0 * 256 + a.toNat) * 256 + b.toNat, by omega, ?_⟩
 unfold rnum
 rw [List.foldl_cons, List.foldl_cons, List.foldl_nil, show (0 : Int) = ((0 : Nat) : Int) from rfl, h1, h2]
 unfold wrap64
 omega
theorem cnt_ok {l : List Int} (h : bytesOk l) : ∃ cn : Nat, cn ≤ 100000 ∧ rnum ((l.drop 4).take 2) = (cn : Int) := by
 have h2 := h.drop 4
 match hq : l.drop 4 with
 | [] => exact ⟨0, by omega, by show wrap64 0 = 0; unfold wrap64; omega⟩
 | [a] =>
  rw [hq] at h2
  exact ⟨a.toNat, by have := h2 a (by simp); omega, rnum_1 (h2 a (by simp)).1 (h2 a (by simp)).2⟩
 | a :: b :: t =>
  rw [hq] at h2
  exact rnum_2 (h2 a (by simp)) (h2 b (by simp))
theorem TxnT.keep {W0 W : World} {gt : Nat} {l : List Int} {o : Option (List Int)} {w w' : World} (h : TxnT W0 W gt l o w) (hk : Kept w w' (fun k => k = W.heap.size)) (hb : Below W.heap.size w w') (hs : W0.heap.size ≤ W.heap.size) (hgt : gt < W.heap.size) : TxnT W0 W gt l o w' := by
 obtain ⟨h1, h2, h3⟩ := h
 refine ⟨h1.then_ hk (fun k_ e_ => .inr (by omega)), h2.trans (hb.mono hs), ?_⟩
 rcases h3 with ⟨z, xs, v, l', e1, e2, e3, e4⟩ | e1
 ·exact .inl ⟨z, xs, v, l', e1, e2, (hk.2 gt (zy e3) (by omega)).trans e3, Kd.R_kept2 e4 hk (fun k a_ b_ => by omega)⟩
 ·exact .inr e1
def TxnE (W : World) (gt : Nat) (l : List Int) (o : Option (List Int)) (w : World) : Prop := (∃ z xs v l', o = some l' ∧ rtxn l = some (z, xs, l') ∧ w.heap[gt]? = some (.cells #[.int .i64 z, v] 25 (0, 0)) ∧ k55.R 55 w (W.heap.size + 2) (fun _ => True) v xs) ∨ (o = none ∧ rtxn l = none)
/-- What is read to the end. -/
def rtxnF (l : List Int) : Option (Int × List S55) := match rtxn l with
 | none => none
 | some (z, xs, l') => if l' = [] then some (z, xs) else none
theorem TxnT.bad {W : World} {gt : Nat} {l : List Int} {o : Option (List Int)} {w : World} (hn : rtxnF l = none) (h : TxnE W gt l o w) : ¬ o = some [] := by
 rcases h with ⟨z, xs, v, l', e1, e2, _⟩ | h
 ·intro he
  rw [e1] at he
  injection he with he
  unfold rtxnF at hn
  rw [e2] at hn
  simp only [he, if_true] at hn
  cases hn
 ·intro he
  rw [h.1] at he
  cases he
theorem TxnT.ok {W : World} {gt : Nat} {l : List Int} {o : Option (List Int)} {w : World} {z : Int} {xs : List S55} (hn : rtxnF l = some (z, xs)) (h : TxnE W gt l o w) : o = some [] ∧ ∃ v, w.heap[gt]? = some (.cells #[.int .i64 z, v] 25 (0, 0)) ∧ k55.R 55 w (W.heap.size + 2) (fun _ => True) v xs := by
 unfold rtxnF at hn
 rcases h with ⟨z', ys, v, l', e1, e2, e3, e4⟩ | h
 ·rw [e2] at hn
  simp only at hn
  split at hn
  ·rename_i hl
   simp only [Option.some.injEq, Prod.mk.injEq] at hn
   obtain ⟨rfl, rfl⟩ := hn
   exact ⟨by rw [e1, hl], v, e3, e4⟩
  ·cases hn
 ·rw [h.2] at hn; cases hn
def impl_DecodeTxn.f (k : Nat) (l0 : List Int) : Option (Bool × Int × List S55) := if l0.all (fun x => decide (0 ≤ x ∧ x ≤ 255)) = true ∧ l0.length ≤ 2000000 then (match rtxnF l0 with | none => some (false, 0, []) | some (z, xs) => (impl_ValidTxn.f k z xs).bind fun v => if v = true then some (true, z, xs) else some (false, 0, [])) else none
theorem impl_DecodeTxn.mono : ∀ l0 k, LeO (impl_DecodeTxn.f k l0) (impl_DecodeTxn.f (k + 1) l0) := by
 intro l0 k
 unfold impl_DecodeTxn.f
 refine LeO.ite ?_ (LeO.refl _)
 cases rtxnF l0 with
 | none => exact LeO.refl _
 | some p => exact LeO.bind (impl_ValidTxn.mono _ _ _) (fun _ => LeO.refl _)
set_option maxHeartbeats 8000000 in
set_option maxRecDepth 100000 in
theorem impl_DecodeTxn.calls (k : Nat) (A0 : Option Addr) (c0 : Nat) (l0 : List Int) (r1 : Bool) (r2 : Int) (r3 : List S55) (w : World) (hr0 : Kd.C (Kd.int .u8) w A0 l0.length l0) (hc0 : l0.length ≤ c0) (h : impl_DecodeTxn.f k l0 = some (r1, r2, r3)) (hGMAX_ : Go.Proofs.YtejecjjimggjeaaDoorH.GFMAX w) :
  Calls Tryd.prog 8 #[.slice A0 l0.length c0] w fun e w' => ∃ v1_ : Value, e = .returned (.agg #[.bool r1, .int .i64 r2, v1_]) ∧ Kd.R k55 55 w' w.heap.size (fun _ => True) v1_ r3 ∧ Below w.heap.size w w' := by
 have HR0 := Aside0.mk hr0
 have HC0 := Aside0.mk hc0
 have HGM := Aside0.mk hGMAX_
 have hu1 := Tryd.underlying27
 have hu2 := Tryd.underlying25
 have hmf : ∀ (fn : Fn) (first cap : Array Value) (w : World), (Instr.makeFunc fn first cap).run Tryd.prog w = .ok (.func fn first cap) w := fun _ _ _ _ => rfl
 clear hr0 hc0 hGMAX_
 unfold impl_DecodeTxn.f at h
 split at h
 ·rename_i hg
  have HOK : Aside0 (bytesOk l0) := ⟨fun x hx => of_decide_eq_true (List.all_eq_true.mp hg.1 x hx)⟩
  have HL := Aside0.mk hg.2
  clear hg
  cases hn : rtxnF l0 with
  | none =>
   rw [hn] at h
   simp only [Option.some.injEq, Prod.mk.injEq] at h
   obtain ⟨rfl, rfl, rfl⟩ := h
   have HN := Aside0.mk hn
   clear hn
   go_enter Tryd.func8, Tryd.ntmps8
   go_wp2_with (first | ((with_reducible refine zw (N := 2) rfl ?_); refine Go.Proofs.YtejecjjimggjeaaDoorH.alloc_arr rfl (t := 27) rfl (N := 2) rfl (zs := #[.bool false, .int .i64 0, .slice none 0 0]) (n := 3) (by kernel_rfl) ?_; intro g2 hg_ w1 hA_ hb_ _; have HA2 := Aside0.mk hA_; have HB2 := Aside0.mk hb_; have HGE2 := Aside0.mk (show w.heap.size ≤ g2 by (rw [hg_]; exact Nat.le_refl _)); clear hA_ hb_ hg_) | ((with_reducible refine zw (N := 3) rfl ?_); refine Go.Proofs.YtejecjjimggjeaaDoorH.alloc_arr rfl (t := 25) rfl (N := 3) rfl (zs := #[.int .i64 0, .slice none 0 0]) (n := 2) (by kernel_rfl) ?_; intro g3 hg_ w2 hA_ hb_ _; have HA3 := Aside0.mk hA_; have HA2b := Aside0.mk ((hb_.block _ (zy HA2.out)).trans HA2.out); have HNE := Aside0.mk (show g2 ≠ g3 by (have h1_ := zy HA2.out; omega)); have HB3 := Aside0.mk (zm HB2.out hb_); have HGE3 := Aside0.mk (show w.heap.size ≤ g3 by (rw [hg_]; exact HB2.out.size)); clear hA_ hb_ hg_) | ((with_reducible refine zn (f := 30) rfl ?_); refine zz (some 7) rfl rfl Tryd.func30 (by kernel_rfl) rfl #[.slice A0 l0.length c0, .func (.func 31) #[] #[.pointer (some ⟨g3, 0, none⟩)]] rfl (by (try simp only [List.map_toArray, List.map_cons, List.map_nil]); first | done | rfl) ?_; refine (good_c w w2 HB3.out A0 c0 l0 HR0.out HC0.out 31 #[.pointer (some ⟨g3, 0, none⟩)] (enters_of Tryd.func31 (by kernel_rfl) rfl) (TxnT w w2 g3 l0) (txn_f w w2 g3 l0 HOK.out HL.out (cnt_ok HOK.out) HA3.out HGE3.out) (fun o_ u_ u2_ h_ hk_ hb2_ => TxnT.keep h_ hk_ hb2_ HB3.out.size (zy HA3.out))).mono ?_; rintro e w3 ⟨o_, rfl, hk_, hb_, ht_⟩; have hne_ := TxnT.bad HN.out ht_; have hdec_ : decide (o_ = some []) = false := decide_eq_false hne_; (rw [hdec_]); refine ⟨_, rfl, ?_⟩; have HA23 := Aside0.mk ((hk_.2 g2 (zy HA2b.out) HNE.out).trans HA2b.out); have HB4 := Aside0.mk hb_; clear ht_ hk_ hb_) | (refine Go.Proofs.YtejecjjimggjeaaDoorH.store_arr (g := g2) (cells := #[.bool false, .int .i64 0, .slice none 0 0]) rfl (t := 27) rfl rfl rfl rfl HA23.out (by kernel_rfl) rfl (by kernel_rfl) ?_; intro w9 hA9_ hg9_; have HA9 := Aside0.mk hA9_; have HG9 := Aside0.mk hg9_; have HB9 := Aside0.mk (pw_below_grown HB4.out (some g2) HB4.out.size hg9_ (fun k_ hk_ => by injection hk_ with hk_; rw [← hk_]; exact HGE2.out)); clear hA9_ hg9_))
   refine bodyPost_ret (results_cell_row rfl _ _ g2 27 _ (0, 0) _ rfl HA9.out Tryd.underlying27 rfl (by kernel_rfl)) rfl ?_
   exact ⟨_, rfl, Kd.R_nil _ _ _ _ _, HB9.out⟩
  | some p =>
   obtain ⟨z, xs⟩ := p
   rw [hn] at h
   simp only at h
   have HN := Aside0.mk hn
   clear hn
   obtain ⟨v_, hv_, h⟩ := Option.bind_eq_some_iff.mp h
   have HV := Aside0.mk hv_
   clear hv_
   cases v_ with
   | false =>
    rw [if_neg (by decide)] at h
    simp only [Option.some.injEq, Prod.mk.injEq] at h
    obtain ⟨rfl, rfl, rfl⟩ := h
    go_enter Tryd.func8, Tryd.ntmps8
    go_wp2_with (first | ((with_reducible refine zw (N := 2) rfl ?_); refine Go.Proofs.YtejecjjimggjeaaDoorH.alloc_arr rfl (t := 27) rfl (N := 2) rfl (zs := #[.bool false, .int .i64 0, .slice none 0 0]) (n := 3) (by kernel_rfl) ?_; intro g2 hg_ w1 hA_ hb_ _; have HA2 := Aside0.mk hA_; have HB2 := Aside0.mk hb_; have HGE2 := Aside0.mk (show w.heap.size ≤ g2 by (rw [hg_]; exact Nat.le_refl _)); clear hA_ hb_ hg_) | ((with_reducible refine zw (N := 3) rfl ?_); refine Go.Proofs.YtejecjjimggjeaaDoorH.alloc_arr rfl (t := 25) rfl (N := 3) rfl (zs := #[.int .i64 0, .slice none 0 0]) (n := 2) (by kernel_rfl) ?_; intro g3 hg_ w2 hA_ hb_ _; have HA3 := Aside0.mk hA_; have HA2b := Aside0.mk ((hb_.block _ (zy HA2.out)).trans HA2.out); have HNE := Aside0.mk (show g2 ≠ g3 by (have h1_ := zy HA2.out; omega)); have HB3 := Aside0.mk (zm HB2.out hb_); have HGE3 := Aside0.mk (show w.heap.size ≤ g3 by (rw [hg_]; exact HB2.out.size)); clear hA_ hb_ hg_) | ((with_reducible refine zn (f := 30) rfl ?_); refine zz (some 7) rfl rfl Tryd.func30 (by kernel_rfl) rfl #[.slice A0 l0.length c0, .func (.func 31) #[] #[.pointer (some ⟨g3, 0, none⟩)]] rfl (by (try simp only [List.map_toArray, List.map_cons, List.map_nil]); first | done | rfl) ?_; refine (good_c w w2 HB3.out A0 c0 l0 HR0.out HC0.out 31 #[.pointer (some ⟨g3, 0, none⟩)] (enters_of Tryd.func31 (by kernel_rfl) rfl) (TxnT w w2 g3 l0) (txn_f w w2 g3 l0 HOK.out HL.out (cnt_ok HOK.out) HA3.out HGE3.out) (fun o_ u_ u2_ h_ hk_ hb2_ => TxnT.keep h_ hk_ hb2_ HB3.out.size (zy HA3.out))).mono ?_; rintro e w3 ⟨o_, rfl, hk_, hb_, ht_⟩; obtain ⟨rfl, v, hg3_, hr_⟩ := TxnT.ok HN.out ht_; obtain ⟨Av, cv, ev⟩ := Kd.R_slice hr_; subst ev; refine ⟨_, rfl, ?_⟩; have HA23 := Aside0.mk ((hk_.2 g2 (zy HA2b.out) HNE.out).trans HA2b.out); have HA33 := Aside0.mk hg3_; have HRV := Aside0.mk (Kd.R_lower hr_ (by have := HB3.out.size; omega : w.heap.size ≤ w2.heap.size + 2)); have HB4 := Aside0.mk hb_; have hct : w3.cell? ⟨g3, 0, none⟩ = some (.int .i64 z) := (zi HA33.out 0).trans rfl; have hcu : w3.cell? ⟨g3, 1, none⟩ = some (.slice Av xs.length cv) := (zi HA33.out 1).trans rfl; clear ht_ hk_ hb_ hg3_ hr_) | ((with_reducible refine zn (f := 34) rfl ?_); (try (refine gate_guard (by rfl) ?_; dsimp only)); refine zz (some 12) rfl rfl Tryd.func34 (by kernel_rfl) rfl #[.agg #[.int .i64 z, .slice Av xs.length cv]] rfl (by (try simp only [List.map_toArray, List.map_cons, List.map_nil]); first | done | rfl) ?_; refine (impl_ValidTxn.calls k z Av cv xs false w3 (Kd.R_reads' HRV.out).2.2 (Kd.R_reads' HRV.out).2.1 HV.out (Go.Proofs.YtejecjjimggjeaaDoorH.GFMAX.below HGM.out HB4.out)).mono ?_; rintro e w4 ⟨rfl, hb_⟩; refine ⟨_, rfl, ?_⟩; have HA24 := Aside0.mk ((hb_.block _ (zy HA23.out)).trans HA23.out); have HA34 := Aside0.mk ((hb_.block _ (zy HA33.out)).trans HA33.out); have HRV4 := Aside0.mk (Kd.R_below HRV.out hb_); have HB5 := Aside0.mk (zm HB4.out hb_); clear hb_ hct hcu; have hct : w4.cell? ⟨g3, 0, none⟩ = some (.int .i64 z) := (zi HA34.out 0).trans rfl; have hcu : w4.cell? ⟨g3, 1, none⟩ = some (.slice Av xs.length cv) := (zi HA34.out 1).trans rfl) | (refine Go.Proofs.YtejecjjimggjeaaDoorH.store_arr (g := g2) (cells := #[.bool false, .int .i64 0, .slice none 0 0]) rfl (t := 27) rfl rfl rfl rfl HA24.out (by kernel_rfl) rfl (by kernel_rfl) ?_; intro w9 hA9_ hg9_; have HA9 := Aside0.mk hA9_; have HG9 := Aside0.mk hg9_; have HB9 := Aside0.mk (pw_below_grown HB5.out (some g2) HB5.out.size hg9_ (fun k_ hk_ => by injection hk_ with hk_; rw [← hk_]; exact HGE2.out)); clear hA9_ hg9_))
    refine bodyPost_ret (results_cell_row rfl _ _ g2 27 _ (0, 0) _ rfl HA9.out Tryd.underlying27 rfl (by kernel_rfl)) rfl ?_
    exact ⟨_, rfl, Kd.R_nil _ _ _ _ _, HB9.out⟩
   | true =>
    rw [if_pos rfl] at h
    simp only [Option.some.injEq, Prod.mk.injEq] at h
    obtain ⟨rfl, rfl, rfl⟩ := h
    go_enter Tryd.func8, Tryd.ntmps8
    go_wp2_with (first | ((with_reducible refine zw (N := 2) rfl ?_); refine Go.Proofs.YtejecjjimggjeaaDoorH.alloc_arr rfl (t := 27) rfl (N := 2) rfl (zs := #[.bool false, .int .i64 0, .slice none 0 0]) (n := 3) (by kernel_rfl) ?_; intro g2 hg_ w1 hA_ hb_ _; have HA2 := Aside0.mk hA_; have HB2 := Aside0.mk hb_; have HGE2 := Aside0.mk (show w.heap.size ≤ g2 by (rw [hg_]; exact Nat.le_refl _)); clear hA_ hb_ hg_) | ((with_reducible refine zw (N := 3) rfl ?_); refine Go.Proofs.YtejecjjimggjeaaDoorH.alloc_arr rfl (t := 25) rfl (N := 3) rfl (zs := #[.int .i64 0, .slice none 0 0]) (n := 2) (by kernel_rfl) ?_; intro g3 hg_ w2 hA_ hb_ _; have HA3 := Aside0.mk hA_; have HA2b := Aside0.mk ((hb_.block _ (zy HA2.out)).trans HA2.out); have HNE := Aside0.mk (show g2 ≠ g3 by (have h1_ := zy HA2.out; omega)); have HB3 := Aside0.mk (zm HB2.out hb_); have HGE3 := Aside0.mk (show w.heap.size ≤ g3 by (rw [hg_]; exact HB2.out.size)); clear hA_ hb_ hg_) | ((with_reducible refine zn (f := 30) rfl ?_); refine zz (some 7) rfl rfl Tryd.func30 (by kernel_rfl) rfl #[.slice A0 l0.length c0, .func (.func 31) #[] #[.pointer (some ⟨g3, 0, none⟩)]] rfl (by (try simp only [List.map_toArray, List.map_cons, List.map_nil]); first | done | rfl) ?_; refine (good_c w w2 HB3.out A0 c0 l0 HR0.out HC0.out 31 #[.pointer (some ⟨g3, 0, none⟩)] (enters_of Tryd.func31 (by kernel_rfl) rfl) (TxnT w w2 g3 l0) (txn_f w w2 g3 l0 HOK.out HL.out (cnt_ok HOK.out) HA3.out HGE3.out) (fun o_ u_ u2_ h_ hk_ hb2_ => TxnT.keep h_ hk_ hb2_ HB3.out.size (zy HA3.out))).mono ?_; rintro e w3 ⟨o_, rfl, hk_, hb_, ht_⟩; obtain ⟨rfl, v, hg3_, hr_⟩ := TxnT.ok HN.out ht_; obtain ⟨Av, cv, ev⟩ := Kd.R_slice hr_; subst ev; refine ⟨_, rfl, ?_⟩; have HA23 := Aside0.mk ((hk_.2 g2 (zy HA2b.out) HNE.out).trans HA2b.out); have HA33 := Aside0.mk hg3_; have HRV := Aside0.mk (Kd.R_lower hr_ (by have := HB3.out.size; omega : w.heap.size ≤ w2.heap.size + 2)); have HB4 := Aside0.mk hb_; have hct : w3.cell? ⟨g3, 0, none⟩ = some (.int .i64 z) := (zi HA33.out 0).trans rfl; have hcu : w3.cell? ⟨g3, 1, none⟩ = some (.slice Av xs.length cv) := (zi HA33.out 1).trans rfl; clear ht_ hk_ hb_ hg3_ hr_) | ((with_reducible refine zn (f := 34) rfl ?_); (try (refine gate_guard (by rfl) ?_; dsimp only)); refine zz (some 12) rfl rfl Tryd.func34 (by kernel_rfl) rfl #[.agg #[.int .i64 z, .slice Av xs.length cv]] rfl (by (try simp only [List.map_toArray, List.map_cons, List.map_nil]); first | done | rfl) ?_; refine (impl_ValidTxn.calls k z Av cv xs true w3 (Kd.R_reads' HRV.out).2.2 (Kd.R_reads' HRV.out).2.1 HV.out (Go.Proofs.YtejecjjimggjeaaDoorH.GFMAX.below HGM.out HB4.out)).mono ?_; rintro e w4 ⟨rfl, hb_⟩; refine ⟨_, rfl, ?_⟩; have HA24 := Aside0.mk ((hb_.block _ (zy HA23.out)).trans HA23.out); have HA34 := Aside0.mk ((hb_.block _ (zy HA33.out)).trans HA33.out); have HRV4 := Aside0.mk (Kd.R_below HRV.out hb_); have HB5 := Aside0.mk (zm HB4.out hb_); clear hb_ hct hcu; have hct : w4.cell? ⟨g3, 0, none⟩ = some (.int .i64 z) := (zi HA34.out 0).trans rfl; have hcu : w4.cell? ⟨g3, 1, none⟩ = some (.slice Av xs.length cv) := (zi HA34.out 1).trans rfl) | (refine Go.Proofs.YtejecjjimggjeaaDoorH.store_arr (g := g2) (cells := #[.bool true, .int .i64 z, .slice Av xs.length cv]) rfl (t := 27) rfl rfl rfl rfl HA24.out (by kernel_rfl) rfl (by kernel_rfl) ?_; intro w9 hA9_ hg9_; have HA9 := Aside0.mk hA9_; have HG9 := Aside0.mk hg9_; have HB9 := Aside0.mk (pw_below_grown HB5.out (some g2) HB5.out.size hg9_ (fun k_ hk_ => by injection hk_ with hk_; rw [← hk_]; exact HGE2.out)); clear hA9_ hg9_))
    refine bodyPost_ret (results_cell_row rfl _ _ g2 27 _ (0, 0) _ rfl HA9.out Tryd.underlying27 rfl (by kernel_rfl)) rfl ?_
    exact ⟨_, rfl, Kd.R_mono (Kd.R_grown (Kd.R_types HRV4.out HA24.out (by decide)) HG9.out (fun k_ hk_ e_ => hk_.2 (by injection e_))) (fun _ _ => trivial), HB9.out⟩
 ·cases h

end Go.Proofs.YtejecjjimggjeaaDoor.GFnExactDecodeTxn
