/- Written by give.py, a program of this session, that runs the kit's print and lays contracts proved by hand beside it. -/
import Derived.Test.YtejecjjimggjeaaGFnSyncx0
import Derived.Test.YtejecjjimggjeaaGFnSyncx8
import Derived.Test.YtejecjjimggjeaaGFnSyncx9
import Derived.Test.YtejecjjimggjeaaGFnSyncx10
namespace Go.Proofs.Ytejecjjimggjeaa.GFnSync
open Go.RowKit Go.Proofs.YtejecjjimggjeaaW.PrintWords Go.Proofs.YtejecjjimggjeaaW.PrintLast Go.Proofs.YtejecjjimggjeaaW.PrintMore
attribute [local go_sem] max2_int min2_int max_two min_two max_three min_three max_four min_four
attribute [local go_sem high] Go.Proofs.YtejecjjimggjeaaH.str_leq Go.Proofs.YtejecjjimggjeaaH.str_geq Go.Proofs.YtejecjjimggjeaaH.str_gtr   -- for this text's walks alone
set_option linter.unusedVariables false
set_option linter.unusedSimpArgs false

theorem startIn_ {P : Program} {ops : Array Oper} {Q : Exit → Act → World → Prop} {S : World → Prop} {ds : List Nat} {id n nn : Nat} {a : Act} {w : World} (ro : Option Nat) (hQ : ¬ LetsOut Q) (hd : (ops.toList.all fun o => match o.op with | .defer _ => false | _ => true) = true) (l : Array Bool) (hm : P.follows .mixedOrders = true) (hn : ops.size = n) (hl : Array.replicate n false = l) (hS : S w.drew)
  (h : S w.drew → wpAnyLast P .any ops Q S ds n l a w.drew) : (Code.region id ops true).wpIn { Fence.wide with round := ro } nn P Q a w := by
 subst hn
 subst hl
 exact YtejecjjimggjeaaH.regionIn_of hQ ro (fun o ho c he => by have := List.all_eq_true.mp hd o ho; rw [he] at this; cases this) hm (wpAny_of_last _ _ _ _ (h hS))
/-- What the table hands out, one entry after the other. -/
def yl (m : List (Int × List Int)) : List (Int × List Int) := m.map fun p => (p.1, (YtejecjjimggjeaaH.aget m p.1).getD z64)
theorem yl_len (m : List (Int × List Int)) : (yl m).length = m.length := by simp [yl]
theorem yl_at {m : List (Int × List Int)} {k : Nat} (h : k < m.length) : (yl m).take (k + 1) = (yl m).take k ++ [(rd (m.map Prod.fst) (k : Int), (YtejecjjimggjeaaH.aget m (rd (m.map Prod.fst) (k : Int))).getD z64)] := by
 rw [List.take_succ_eq_append_getElem (by rw [yl_len]; exact h)]
 simp [yl, rd, h]
theorem yl_mem {m : List (Int × List Int)} {k : Nat} (h : k < m.length) : (rd (m.map Prod.fst) (k : Int), (YtejecjjimggjeaaH.aget m (rd (m.map Prod.fst) (k : Int))).getD z64) ∈ yl m := by
 have h1 : k < (yl m).length := by rw [yl_len]; exact h
 have h2 : (yl m)[k] = (rd (m.map Prod.fst) (k : Int), (YtejecjjimggjeaaH.aget m (rd (m.map Prod.fst) (k : Int))).getD z64) := by simp [yl, rd, h]
 rw [← h2]
 exact List.getElem_mem h1
theorem run_look64' {W : World} {gm : Nat} {m : List (Int × List Int)} (h : YtejecjjimggjeaaH.MapIs (Value.int .i64) arrV W gm m) (b : Int) :
  (Instr.lookup 113 (.map (some gm)) (.int .i64 b) false).run Try.prog W = .ok (arrV ((YtejecjjimggjeaaH.aget m b).getD z64)) W := by
 have hz : ∀ w, (zeroValue 76).run Try.prog w = .ok (arrV z64) w := fun w => by
  rw [arrV_z64]; exact (zero_of_info (P := Try.prog) (n := 64) (show (Try.prog.info? 76).map (fun i => (i.zero, i.size)) = some (some (.agg (Array.replicate 64 (.int .u8 0))), 64) by kernel_rfl)).1 w
 have := YtejecjjimggjeaaH.run_lookup1 (YtejecjjimggjeaaH.int_key Try.underlying2) Try.underlying113 b (arrV z64) hz h
 rw [this]
 cases YtejecjjimggjeaaH.aget m b <;> rfl
attribute [local go_sem] Oper.semAt_some
set_option maxHeartbeats 4000000 in
set_option maxRecDepth 100000 in
theorem each_g (n : Nat) (w : World) (gy gm : Nat) (AK : Option Addr) (cK : Nat) (m : List (Int × List Int)) (hml : m.length ≤ 1000000) (St : World → Prop)
  (hst : ∀ W, St W → W.heap[gy]? = some (.cells #[.slice AK m.length cK, .map (some gm)] 115 (0, 0)) ∧ YtejecjjimggjeaaH.MapIs (Value.int .i64) arrV W gm m ∧ (Kd.int .i64).C W AK m.length (m.map Prod.fst)) (hkb : ∀ W', YtejecjjimggjeaaH.KeepB w.heap.size w W' → St W') :
  YtejecjjimggjeaaH.Gives Try.prog n 73 #[.pointer (some ⟨gy, 0, none⟩)] #[] (fun x : Int × List Int => #[.int .i64 x.1, arrV x.2]) (fun W W' => St W → St W') (fun x _ _ => x ∈ yl m) (fun xs => xs = yl m) (fun _ => True) w.heap.size w := by
 intro l J Jx W hW hWs hJ hJx hY h0
 have hS0 := hkb W hW
 have HST := Aside0.mk hst
 clear hst hkb
 refine callsIn_of_wp Try.func73 rfl trivial ?_ rfl
 simp only [Try.ntmps73, List.size_toArray, List.length_cons, List.length_nil, Nat.reduceAdd, Nat.reduceSub, Array.replicate_succ, Array.replicate_zero, List.push_toArray, List.append_toArray, List.nil_append, List.cons_append]
 have hc0 : W.cell? ⟨gy, 0, none⟩ = some (.slice AK m.length cK) := (zb (HST.out W hS0).1 0).trans rfl
 gi_wp2
 clear hc0
 gi_loopw [11] (fun i wr => ∃ k : Nat, k ≤ m.length ∧ i = .int .i64 k ∧ J ((yl m).take k) wr ∧ St wr) (fun i _ => m.length - (intOf i).toNat)
 case atStart => exact ⟨0, Nat.zero_le _, rfl, h0, hS0⟩
 case round =>
  obtain ⟨k, hk, rfl, hJs, hSt⟩ := hrel
  obtain ⟨bo, bm, hr⟩ := HST.out wr hSt
  have hc1 : wr.cell? ⟨gy, 1, none⟩ = some (.map (some gm)) := (zb bo 1).trans rfl
  by_cases hlt : k < m.length
  ·obtain ⟨ad, e1, hx⟩ := Kd.at_int hr (k : Int) (by omega) (by omega)
   subst e1
   rw [Int.toNat_natCast] at hx
   have hyy := hY _ _ wr wr hJs (Below.refl _ _) (yl_mem hlt)
   have hlk := run_look64' bm (rd (m.map Prod.fst) (k : Int))
   obtain ⟨v, hv⟩ : ∃ v, v = (YtejecjjimggjeaaH.aget m (rd (m.map Prod.fst) (k : Int))).getD z64 := ⟨_, rfl⟩
   obtain ⟨b, hb⟩ : ∃ b, b = rd (m.map Prod.fst) (k : Int) := ⟨_, rfl⟩
   have HT := Aside0.mk (yl_at hlt)
   rw [← hb] at hv
   rw [← hb, ← hv] at hyy hlk HT
   rw [← hb] at hx
   obtain ⟨fn, tmps, assign, body, hy, hR⟩ := hyy
   dsimp only at hy
   have hlt' : (k : Int) < (m.length : Int) := by omega
   have hk0 : (0 : Int) ≤ (k : Int) := by omega
   have hltb : decide ((k : Int) < (m.length : Int)) = true := decide_eq_true hlt'
   clear bm hr hv hb
   gi_wp2
   refine ⟨fun h_ => by simp [Fence.wide] at h_, hR.mono ?_⟩
   rintro e W3 (⟨rfl, hJ3, hk3⟩ | ⟨rfl, hJx3⟩)
   ·gi_wp2
    go_roundw
    case rel => exact ⟨k + 1, by omega, by (have := wrap64 ((k : Int) + 1)); simp, by rw [HT.out]; exact hJ3, hk3 hSt⟩
    case measure => simp [intOf]; omega
   ·gi_wp2
    refine bodyPost_ret (results_none rfl _ _ _) rfl ?_
    exact ⟨⟨_, rfl⟩, .inr ⟨_, trivial, hJx3⟩⟩
  ·obtain rfl : k = m.length := by omega
   have hltb : decide ((m.length : Int) < (m.length : Int)) = false := decide_eq_false (by omega)
   gi_wp2
   go_end0
   rw [← yl_len m, List.take_length] at hJs
   exact ⟨⟨_, rfl⟩, .inl ⟨_, rfl, hJs⟩⟩
def syncD (dur : List Int) (L : List (Int × List Int)) : List Int := L.foldl (fun D p => put1 D p.1.toNat p.2 64) dur
theorem syncD_snoc (dur : List Int) (L : List (Int × List Int)) (p : Int × List Int) : syncD dur (L ++ [p]) = put1 (syncD dur L) p.1.toNat p.2 64 := by simp [syncD]
theorem syncD_len {dur : List Int} : ∀ (L : List (Int × List Int)), (∀ p ∈ L, 0 ≤ p.1 ∧ 64 * p.1 + 64 ≤ dur.length ∧ p.2.length = 64) → (syncD dur L).length = dur.length := by
 intro L
 induction L generalizing dur with
 | nil => intro _; rfl
 | cons p L ih =>
  intro h
  have h1 := h p (by simp)
  have h2 : (put1 dur p.1.toNat p.2 64).length = dur.length := put1_len (by omega) (by omega) h1.2.2
  have := ih (dur := put1 dur p.1.toNat p.2 64) (fun q hq => by rw [h2]; exact h q (by simp [hq]))
  rw [h2] at this
  exact this
theorem yl_ok {m : List (Int × List Int)} {n : Nat} (h64 : ∀ p ∈ m, p.2.length = 64) (hb : ∀ p ∈ m, 0 ≤ p.1 ∧ 64 * p.1 + 64 ≤ (n : Int)) : ∀ p ∈ yl m, 0 ≤ p.1 ∧ 64 * p.1 + 64 ≤ (n : Int) ∧ p.2.length = 64 := by
 intro p hp
 obtain ⟨q, hq, rfl⟩ := List.mem_map.mp hp
 exact ⟨(hb q hq).1, (hb q hq).2, aget_64 h64 q.1⟩
theorem cells_of_R {W : World} {B gD cap n : Nat} {ok : Nat → Prop} {dur : List Int} (h : (Kd.int .u8).R 5 W B ok (.slice (some ⟨gD, 0, none⟩) n cap) dur) {k : Nat} (hk : gD = k) : ∃ q : TypeId, ∃ _ : True, ∃ _ : True, ∃ _ : True, ∃ cells, W.heap[k]? = some (Obj.cells cells q (0, 0)) := by
 subst hk
 obtain ⟨_, _, _, q, _, cells, hc⟩ := (Kd.R_bound h).1 gD rfl
 exact ⟨q, trivial, trivial, trivial, cells, hc⟩
theorem Plat.putEnd {W : World} {B s gp D : Nat} {dur : List Int} {pend : List S45} {m : List (Int × List Int)} {gy gm : Nat} {vD vP vK : Value} (h : Plat W B s gp dur pend m gy gm vD vP vK) (hD : W.heap[D]? = some (Obj.deferred (some []))) (o : Obj) : Plat (W.putObj D o) B s gp dur pend m gy gm vD vP vK := by
 have ne : ∀ k, W.heap[k]? ≠ some (Obj.deferred (some [])) → (W.putObj D o).heap[k]? = W.heap[k]? := fun k hk => World.putObj_heap_other (fun e => hk (by subst e; exact hD))
 have mv : ∀ k, (∃ q cells, W.heap[k]? = some (Obj.cells cells q (0, 0))) → (W.putObj D o).heap[k]? = W.heap[k]? := fun k ⟨q, cells, hk⟩ => ne k (by rw [hk]; intro e; cases e)
 exact {
  bp := (mv _ ⟨_, _, h.bp⟩).trans h.bp
  bo := (mv _ ⟨_, _, h.bo⟩).trans h.bo
  bm := h.bm.move (ne _ (by obtain ⟨es, c, h1, _⟩ := h.bm; rw [h1]; intro e; cases e))
  rd := Kd.R_mono (Kd.R_move (Kd.R_bound h.rd) (fun k hk => mv k (by obtain ⟨_, _, _, q, _, cells, hc⟩ := hk; exact ⟨q, cells, hc⟩))) (fun k hk => hk.1)
  rp := Kd.R_mono (Kd.R_move (Kd.R_bound h.rp) (fun k hk => mv k (by obtain ⟨_, _, _, q, _, cells, hc⟩ := hk; exact ⟨q, cells, hc⟩))) (fun k hk => hk.1)
  rk := Kd.R_mono (Kd.R_move (Kd.R_bound h.rk) (fun k hk => mv k (by obtain ⟨_, _, _, q, _, cells, hc⟩ := hk; exact ⟨q, cells, hc⟩))) (fun k hk => hk.1)
  pp := h.pp
  po := h.po
  pm := h.pm
  m64 := h.m64 }
def SyncSt (B s gy gm : Nat) (AK : Option Addr) (cK : Nat) (m : List (Int × List Int)) (W : World) : Prop :=
 W.heap[gy]? = some (.cells #[.slice AK m.length cK, .map (some gm)] 115 (0, 0)) ∧ YtejecjjimggjeaaH.MapIs (Value.int .i64) arrV W gm m ∧ (Kd.int .i64).R 2 W B (fun k => k < s) (.slice AK m.length cK) (m.map Prod.fst) ∧ B ≤ gy ∧ gy < s ∧ B ≤ gm ∧ gm < s
theorem SyncSt.move {B s gy gm : Nat} {AK : Option Addr} {cK : Nat} {m : List (Int × List Int)} {W W' : World} (h : SyncSt B s gy gm AK cK m W) (hm : ∀ k, B ≤ k → k < s → W'.heap[k]? = W.heap[k]?) : SyncSt B s gy gm AK cK m W' := by
 obtain ⟨h1, h2, h3, h4, h5, h6, h7⟩ := h
 exact ⟨(hm _ h4 h5).trans h1, h2.move (hm _ h6 h7), Kd.R_mono (Kd.R_move (Kd.R_bound h3) (fun k hk => hm k hk.2.1 hk.1)) (fun k hk => hk.1), h4, h5, h6, h7⟩
theorem Plat.st {W : World} {B s gp : Nat} {dur : List Int} {pend : List S45} {m : List (Int × List Int)} {gy gm cK : Nat} {vD vP : Value} {AK : Option Addr} (h : Plat W B s gp dur pend m gy gm vD vP (.slice AK m.length cK)) : SyncSt B s gy gm AK cK m W := ⟨h.bo, h.bm, h.rk, h.po.1, h.po.2, h.pm.1, h.pm.2⟩
structure SyncI (W0 W w1 : World) (s gp g1 gD cap : Nat) (dur : List Int) (pend : List S45) (m : List (Int × List Int)) (gy gm : Nat) (vP : Value) (AK : Option Addr) (cK : Nat) (L : List (Int × List Int)) (W' : World) : Prop where
 plat : Plat W' W0.heap.size s gp (syncD dur L) pend m gy gm (.slice (some ⟨gD, 0, none⟩) dur.length cap) vP (.slice AK m.length cK)
 a1 : W'.heap[g1]? = some (.cells #[.pointer (some ⟨gp, 0, none⟩)] 72 (0, 0))
 bel : Below W0.heap.size W0 W'
 kep : Kept W W' (fun k => W0.heap.size ≤ k ∧ k < s)
 sz : w1.heap.size ≤ W'.heap.size
 mem : ∀ p ∈ L, p ∈ yl m
theorem SyncI.keep {W0 W w1 : World} {s gp g1 gD cap : Nat} {dur : List Int} {pend : List S45} {m : List (Int × List Int)} {gy gm : Nat} {vP : Value} {AK : Option Addr} {cK : Nat} {L : List (Int × List Int)} {W' W2 : World} (h : SyncI W0 W w1 s gp g1 gD cap dur pend m gy gm vP AK cK L W') (hk : YtejecjjimggjeaaH.KeepB w1.heap.size W' W2) (hs : s ≤ W.heap.size) (hW : W.heap.size ≤ w1.heap.size) (hB : W0.heap.size ≤ w1.heap.size) : SyncI W0 W w1 s gp g1 gD cap dur pend m gy gm vP AK cK L W2 where
 plat := h.plat.move (fun k _ h2 => hk.below.block k (by omega)) (Nat.le_refl _)
 a1 := hk.cells _ _ _ _ h.a1
 bel := h.bel.trans (hk.below.mono hB)
 kep := ⟨Nat.le_trans h.kep.1 hk.below.size, fun i hi hn => (hk.below.block i (by omega)).trans (h.kep.2 i hi hn)⟩
 sz := Nat.le_trans h.sz hk.below.size
 mem := h.mem
set_option maxHeartbeats 8000000 in
set_option maxRecDepth 100000 in
theorem sync_c (W0 W : World) (s gp : Nat) (dur : List Int) (pend : List S45) (m : List (Int × List Int)) (gy gm : Nat) (vD vP vK : Value) (hP : Plat W W0.heap.size s gp dur pend m gy gm vD vP vK) (hs : s ≤ W.heap.size) (hB : Below W0.heap.size W0 W)
  (hmb : ∀ p ∈ m, 0 ≤ p.1 ∧ 64 * p.1 + 64 ≤ (dur.length : Int)) (hml : m.length ≤ 1000000) (hd0 : 0 < dur.length) (hdl : dur.length ≤ 100000000) :
  Calls Try.prog 49 #[.pointer (some ⟨gp, 0, none⟩)] W fun e w' => e = .returned (.tuple #[]) ∧ ∃ gy' gm', Plat w' W0.heap.size w'.heap.size gp (syncD dur (yl m)) [] [] gy' gm' vD (.slice none 0 0) (.slice none 0 0) ∧ Below W0.heap.size W0 w' ∧ Kept W w' (fun k => W0.heap.size ≤ k ∧ k < s) := by
 obtain ⟨gD, cap, e0, _, _, _⟩ := Kd.R_form hP.rd hd0
 subst e0
 obtain ⟨AK, cK, e1⟩ := Kd.R_slice hP.rk
 rw [List.length_map] at e1
 subst e1
 have HP0 := Aside0.mk hP
 have HS := Aside0.mk hs
 have HB0 := Aside0.mk hB
 have HMB := Aside0.mk (yl_ok hP.m64 hmb)
 have HDL := Aside0.mk hdl
 have hw0 := blk_new W (.cells #[.pointer (some ⟨gp, 0, none⟩)] 72)
 have hb0 := zf (Below.refl W.heap.size W) (.cells #[.pointer (some ⟨gp, 0, none⟩)] 72)
 have hsz0 : (W.alloc (.cells #[.pointer (some ⟨gp, 0, none⟩)] 72)).heap.size = W.heap.size + 1 := by simp
 have hc1 := zb hw0 0
 have hc2 : (W.alloc (.cells #[.pointer (some ⟨gp, 0, none⟩)] 72)).cell? ⟨gp, 2, none⟩ = some (.pointer (some ⟨gy, 0, none⟩)) := (zb ((hb0.block _ (zr hP.bp)).trans hP.bp) 2).trans rfl
 clear hP hs hB hmb hdl
 refine (callsIn_wide (n := 5)).1 (callsIn_of_wp_marks Try.func49 rfl trivial ?_ rfl)
 simp only [Try.ntmps49, List.size_toArray, List.length_cons, List.length_nil, Nat.reduceAdd, Nat.reduceSub, Array.replicate_succ, Array.replicate_zero, List.push_toArray, List.append_toArray, List.nil_append, List.cons_append]
 gi_wp2
 clear hc1 hc2
 obtain ⟨w1, hw1⟩ : ∃ w_, W.alloc (Obj.cells #[.pointer (some ⟨gp, 0, none⟩)] 72) = w_ := ⟨_, rfl⟩
 rw [hw1] at hw0 hb0 hsz0 ⊢
 clear hw1
 obtain ⟨g1, hg1⟩ : ∃ g_, W.heap.size = g_ := ⟨_, rfl⟩
 have HG1 : Aside0 (W.heap.size ≤ g1 ∧ w1.heap.size = g1 + 1) := ⟨by omega, by omega⟩
 rw [hg1] at hw0 ⊢
 have HP1 := Aside0.mk (HP0.out.below HS.out hb0)
 have hW0 : W0.heap.size ≤ W.heap.size := HB0.out.size
 have hI0 : SyncI W0 W w1 s gp g1 gD cap dur pend m gy gm vP AK cK [] w1 := ⟨HP1.out, hw0, zk HB0.out hb0, Kept.of_below hb0 _, Nat.le_refl _, by simp⟩
 have hSm : ∀ W1 W2, YtejecjjimggjeaaH.KeepB w1.heap.size W1 W2 → SyncSt W0.heap.size s gy gm AK cK m W1 → SyncSt W0.heap.size s gy gm AK cK m W2 := fun W1 W2 hk h => h.move (fun k _ h2 => hk.below.block k (by have := HS.out; omega))
 refine YtejecjjimggjeaaH.wp_rangeG (gf := 73) (bs := #[.pointer (some ⟨gy, 0, none⟩)]) (lb := #[]) (encs := fun x : Int × List Int => #[.int .i64 x.1, arrV x.2]) rfl (enters_of Try.func73 (by kernel_rfl) rfl) (Nat.le_refl _)
  (each_g 4 w1 gy gm AK cK m hml (SyncSt W0.heap.size s gy gm AK cK m) (fun W1 h => ⟨h.1, h.2.1, by have := (Kd.R_reads' h.2.2.1).2.2; rwa [List.length_map] at this⟩) (fun W1 hk => hSm _ _ hk HP1.out.st))
  (fun h k x => k (h x)) (fun W1 W2 hk h => hSm _ _ hk h) (fun _ => rfl)
  (SyncI W0 W w1 s gp g1 gD cap dur pend m gy gm vP AK cK) (fun _ _ _ => False) (fun L W1 W2 h hk => h.keep hk HS.out (by omega) (by omega)) (fun _ _ _ _ h _ => h) hI0
  (fun x a W' => ∃ g, w1.heap.size ≤ g ∧ W'.heap[g]? = some (Obj.cells (x.2.map (Value.int .u8)).toArray 76 (0, 0)) ∧ a = { tmps := #[.pointer (some ⟨gp, 0, none⟩), .pointer (some ⟨g1, 0, none⟩), .int .i64 x.1, .pointer (some ⟨g, 0, none⟩), .pointer (some ⟨gp, 0, none⟩), .pointer (some ⟨gp, 0, none⟩), .pointer (some ⟨gp, 2, none⟩), .pointer (some ⟨gy, 0, none⟩), .func (.func 73) #[.pointer (some ⟨gy, 0, none⟩)] #[], .int .i64 x.1, arrV x.2, undef, undef, undef, undef, undef, undef, undef], defers := [] })
  (fun x a W1 W2 ⟨g, h1, h2, h3⟩ hk => ⟨g, h1, hk.cells _ _ _ _ h2, h3⟩) ?assign ?body (fun _ _ _ _ h _ _ => h) ?done (fun _ _ _ _ _ _ h _ => h.elim)
 case assign =>
  intro l_ x Wp W' K hpre hsz hK
  have H64 := Aside0.mk (HMB.out x hpre).2.2
  have HSZ := Aside0.mk hsz
  clear hpre hsz
  apply wpIn_seq_k
  intro K1 hK1
  refine YtejecjjimggjeaaH.regionIn_plain (id := 2) (by rintro ⟨_, _, h_⟩; exact h_) (some l_) (by rfl) ?_
  go_wp2
  refine YtejecjjimggjeaaH.regionIn_plain (id := 3) (by rintro ⟨_, _, h_⟩; exact h_) (some l_) (by rfl) ?_
  go_wp2_with (first | ((with_reducible refine zt (N := 3) rfl ?_); refine Go.Proofs.YtejecjjimggjeaaH.alloc_arr rfl (t := 76) rfl (N := 3) rfl (zs := (Array.replicate 64 (.int .u8 0))) (n := 64) (by kernel_rfl) ?_; intro g hg w2 hA hb _; have HA := Aside0.mk hA; have HG := Aside0.mk hg; have HB := Aside0.mk hb; clear hA hg hb) | (refine Go.Proofs.YtejecjjimggjeaaH.store_arr (g := g) (cells := (x.2.map (Value.int .u8)).toArray) rfl (t := 76) rfl rfl rfl rfl HA.out (by rw [arr_size H64.out]; kernel_rfl) (by rw [arr_size H64.out]; rfl) (arr_one x.2) ?_; intro w3 hA3 hg3; have HA3 := Aside0.mk hA3; have HG3 := Aside0.mk hg3; clear hA3 hg3))
  refine hK _ _ (zv HB.out (some g) HB.out.size HG3.out (fun k_ hk_ => by injection hk_ with hk_; rw [← hk_, HG.out]; exact Nat.le_refl _)) ⟨g, by rw [HG.out]; exact HSZ.out, HA3.out, ?_⟩
  rfl
 case body =>
  rintro l_ L x a₁ Wp wr ⟨gx, hgx, hxa, rfl⟩ hWp hIp hkp hsz hpre
  have hI1 := hIp.keep hkp HS.out (by omega) (by omega)
  clear hIp hkp
  have HX := Aside0.mk (HMB.out x hpre)
  have HMEM : Aside0 (∀ p ∈ L ++ [x], p ∈ yl m) := ⟨fun p hp => by rcases List.mem_append.mp hp with h_ | h_; exact hI1.mem p h_; rw [List.mem_singleton.mp h_]; exact hpre⟩
  have HCL := Aside0.mk (syncD_len L (fun p hp => HMB.out p (hI1.mem p hp)))
  have HP := Aside0.mk hI1.plat
  have HA1 := Aside0.mk hI1.a1
  have HB := Aside0.mk hI1.bel
  have HKP := Aside0.mk hI1.kep
  have HSz := Aside0.mk hI1.sz
  have HXA := Aside0.mk hxa
  have HCD := Aside0.mk (syncD_snoc dur L x)
  clear hI1 hpre hWp hsz hxa
  obtain ⟨xb0, xl⟩ := x
  obtain ⟨rb, rfl⟩ : ∃ n : Nat, xb0 = (n : Int) := ⟨xb0.toNat, by have := HX.out.1; simp only at this; omega⟩
  have HBi : Aside0 (64 * rb + 64 ≤ dur.length) := ⟨by have := HX.out.2.1; simp only at this; omega⟩
  have H64 : Aside0 (xl.length = 64) := ⟨HX.out.2.2⟩
  simp only at HXA HCD
  rw [Int.toNat_natCast] at HCD
  obtain ⟨dd, hdd⟩ : ∃ d_, d_ = syncD dur L := ⟨_, rfl⟩
  rw [← hdd] at HCD HCL HP
  clear hdd
  apply wpIn_block
  refine startIn_ (some l_) (by rintro ⟨_, _, h_⟩; exact h_) (by kernel_rfl) (n := 5) (S := fun w' => w'.cell? ⟨g1, 0, none⟩ = some (.pointer (some ⟨gp, 0, none⟩))) (ds := []) #[false, false, false, false, false] (by kernel_rfl) rfl rfl ((zb (zg HA1.out) 0).trans rfl) (fun hHeld => ?_)
  have HPd := Aside0.mk (HP.out.drew); have HAd := Aside0.mk (zg HA1.out); have HXd := Aside0.mk (zg HXA.out); have HBd := Aside0.mk (below_drew HB.out); have HKd := Aside0.mk (Kept.drew HKP.out); have HOd := Aside0.mk (KeepsOthers.drew wr); have HSd := Aside0.mk (show wr.heap.size ≤ wr.drew.heap.size from Nat.le_refl _); generalize wr.drew = w7 at HPd HAd HXd HBd HKd HOd HSd hHeld ⊢
  refine zA (i := 1) (N := some 12) (v := ?_) (a' := ?_) #[false, true, false, false, false] rfl rfl (by kernel_rfl) (fun _ _ _ h => h) (Or.inl ⟨by rfl, ?_⟩) ?_ ?_
  rotate_left
  ·intro w'
   go_simp
   with_reducible rfl
  rotate_left
  ·simp only [Act.put, List.setIfInBounds_toArray, List.set_cons_zero, List.set_cons_succ, zp, zq]
   rfl
  refine zA (i := 3) (N := some 14) (v := .slice (some ⟨gx, 0, none⟩) xl.length xl.length) (a' := ?_) #[false, true, false, true, false] rfl rfl (by kernel_rfl) (fun _ _ _ h => h) (Or.inl ⟨by rfl, ?_⟩) ?_ ?_
  ·intro w'
   exact run_slice64 (by rfl) (by rfl) H64.out
  rotate_left
  ·simp only [Act.put, List.setIfInBounds_toArray, List.set_cons_zero, List.set_cons_succ, zp, zq]
   rfl
  refine take_ (i := 0) (N := some 11) (v := ?_) (a' := ?_) #[true, true, false, true, false] rfl rfl (by kernel_rfl) (fun _ _ _ h => h) (Or.inl ⟨by rfl, ?_⟩) hHeld ?_ ?_
  rotate_left
  ·intro w' s0
   go_simp
   with_reducible rfl
  rotate_left
  ·simp only [Act.put, List.setIfInBounds_toArray, List.set_cons_zero, List.set_cons_succ, zp, zq]
   rfl
  refine one_ (i := 2) (N := some 13) #[true, true, true, true, false] rfl rfl (by kernel_rfl) (by decide) (fun K hK => ?_)
  refine goes_ Try.func71 (by kernel_rfl) rfl #[.pointer (some ⟨gp, 0, none⟩), .int .i64 (rb : Int)] (by rfl) rfl rfl (by (try simp only [List.map_toArray, List.map_cons, List.map_nil]); first | done | rfl) ?_
  refine (place_c w7 W0.heap.size s gp dd pend m gy gm _ _ (.slice AK m.length cK) rb HPd.out (by have := HBi.out; have := HCL.out; omega) (by have := HDL.out; have := HCL.out; omega)).mono ?_
  rintro e w8 ⟨gD2, cap2, hvD, hcap, rfl, rfl⟩
  injection hvD with e1_ e2_ e3_
  injection e1_ with e1_
  injection e1_ with e1_
  subst e1_ e3_
  clear e2_ hcap
  refine ⟨_, rfl, ?_⟩
  refine hK.out _ _ ((zb HAd.out 0).trans rfl) (fun hHeld => ?_)
  clear hK K
  refine norm_ (a' := ?_) ?_ ?_
  rotate_left
  ·show Act.put _ (some 13) _ = _
   simp only [Act.put, List.setIfInBounds_toArray, List.set_cons_zero, List.set_cons_succ, zp, zq]
   rfl
  refine one_ (i := 4) (N := some 15) #[true, true, true, true, true] rfl rfl (by kernel_rfl) (by decide) (fun K hK => ?_)
  have hP7 := HPd.out
  rw [← HCL.out] at hP7
  have hbd_ := HBi.out
  have hcl_ := HCL.out
  have h64_ := H64.out
  have hct_ := read_arr HXd.out H64.out
  obtain ⟨w9, hrun, hR9, hg9⟩ := copy_mid (ty := 3) (off := 64 * rb) (dl := 64) (dcap := cap - 64 * rb) (c := xl.length) hP7.rd hct_ (by omega)
  refine value_ (w1 := w9) (v := _) (by rfl) rfl (exec_copy (by rfl) (by rfl) (by rfl) hrun) ?_
  have hput : dd.take (64 * rb) ++ xl.take (min xl.length 64) ++ dd.drop (64 * rb + min xl.length 64) = put1 dd rb xl 64 := by rw [h64_, Nat.min_self]; rfl
  rw [hput] at hR9
  have hP9 := hP7.afterCopy (put1_len (by omega) (by omega) H64.out) hR9 hg9 (by have := HS.out; have := HSz.out; have := HSd.out; have := HG1.out; omega)
  rw [HCL.out, ← HCD.out] at hP9
  have HPN := Aside0.mk hP9
  have HBN := Aside0.mk (zv HBd.out (some gD) HBd.out.size hg9 (fun k_ hk_ => Kd.R_base hP7.rd k_ hk_))
  have HSN := Aside0.mk (Nat.le_trans HSd.out hg9.size)
  have HKN := Aside0.mk (Kept.of_grown hg9 HKd.out (fun k_ hk_ => .inl ⟨Kd.R_base hP7.rd k_ hk_, hP7.rd.1 k_ hk_⟩))
  have ne1 : some g1 ≠ some gD := fun e_ => by injection e_ with e_; have h1_ := hP7.rd.1 gD rfl; have h2_ := HG1.out; have h3_ := HS.out; omega
  have HAN := Aside0.mk (zD HAd.out hg9 ne1)
  have HON := Aside0.mk (HOd.out.trans (KeepsOthers.of_grownBy hg9 (fun j_ o_ hj_ ho_ => by injection hj_ with hj_; subst hj_; obtain ⟨_, _, _, _, cells_, hcl9⟩ := cells_of_R hP7.rd rfl; rw [ho_] at hcl9; cases hcl9; rfl)))
  clear hct_ hP7 hbd_ hcl_ h64_ hrun hR9 hg9 hput hP9 ne1
  refine hK.out _ _ ((zb HAN.out 0).trans rfl) (fun hHeld => ?_)
  clear hK K
  refine norm_ (a' := ?_) ?_ ?_
  rotate_left
  ·show Act.put _ (some 15) _ = _
   simp only [Act.put, List.setIfInBounds_toArray, List.set_cons_zero, List.set_cons_succ, zp, zq]
   rfl
  refine done_ (by kernel_rfl) ?_
  refine ⟨HON.out, fun _ => HPN.out.st, ⟨HPN.out, HAN.out, HBN.out, HKN.out, ?_, HMEM.out⟩⟩
  have h1_ := HSz.out
  have h2_ := HSN.out
  omega
 case done =>
  rintro D xs wd hD rfl hI hdef
  have HI := Aside0.mk hI
  have HDF := Aside0.mk hdef
  have HDD := Aside0.mk hD
  have hc1 : wd.cell? ⟨g1, 0, none⟩ = some (.pointer (some ⟨gp, 0, none⟩)) := (zb hI.a1 0).trans rfl
  clear hI hdef hD
  gi_wp2_with (first | (refine ⟨trivial, ?_⟩; gi_at_call 72; refine (callsIn_wide.2 (settled_c wd W0.heap.size s gp _ pend m gy gm _ _ _ HI.out.plat (by have := HI.out.sz; have := HG1.out; have := HS.out; omega))).mono ?_; rintro e w2 ⟨rfl, gy', gm', hP2, hb2, hk2⟩; have HP2 := Aside0.mk hP2; have HB2 := Aside0.mk hb2; have HK2 := Aside0.mk hk2; clear hP2 hb2 hk2) | (refine ⟨fun h_ => by simp [Fence.wide] at h_, ?_⟩))
  have hDn := (show w1.heap.size ≤ D ∧ W.heap.size ≤ g1 ∧ w1.heap.size = g1 + 1 from ⟨HDD.out, HG1.out⟩)
  have hd2 : w2.heap[D]? = some (Obj.deferred (some [])) := (HK2.out.2 D (zr HDF.out) (fun h_ => by have := HS.out; omega)).trans HDF.out
  refine ⟨_, run_takeDeferred hd2, ?_⟩
  refine ⟨_, results_none rfl _ _ _, ?_⟩
  have kb := YtejecjjimggjeaaH.KeepB.put (B := W0.heap.size) (.deferred none) hd2 rfl (by omega)
  refine ⟨rfl, ⟨gy', gm', ?_⟩, (HI.out.bel.trans HB2.out).trans kb.below, ?_⟩
  ·have hp := HP2.out.putEnd hd2 (.deferred none)
   rw [World.putObj_size]; exact hp
  ·have hk3 := HI.out.kep.then_ HK2.out (fun k_ h_ => .inl h_)
   exact ⟨Nat.le_trans hk3.1 kb.below.size, fun i hi hn => (World.putObj_heap_other (by omega)).trans (hk3.2 i hi hn)⟩
theorem aset_all {q : Int × List Int → Prop} {m : List (Int × List Int)} (h : ∀ p ∈ m, q p) (b : Int) {d : List Int} (hd : q (b, d)) : ∀ p ∈ YtejecjjimggjeaaH.aset m b d, q p := by
 induction m with
 | nil => intro p hp; simp only [YtejecjjimggjeaaH.aset, List.mem_singleton] at hp; subst hp; exact hd
 | cons x m ih =>
  intro p hp
  obtain ⟨k', v'⟩ := x
  simp only [YtejecjjimggjeaaH.aset] at hp
  by_cases c : k' = b
  ·rw [if_pos c] at hp
   rcases List.mem_cons.mp hp with rfl | hp
   ·exact hd
   ·exact h p (by simp [hp])
  ·rw [if_neg c] at hp
   rcases List.mem_cons.mp hp with rfl | hp
   ·exact h _ (by simp)
   ·exact ih (fun y hy => h y (by simp [hy])) p hp
theorem yng_all {q : Int × List Int → Prop} {l : List S45} (h : ∀ p ∈ l, q (p.f0, p.f1)) : ∀ p ∈ yng l, q p := by
 have : ∀ (l : List S45) (m : List (Int × List Int)), (∀ p ∈ m, q p) → (∀ p ∈ l, q (p.f0, p.f1)) → ∀ p ∈ l.foldl (fun m p => YtejecjjimggjeaaH.aset m p.f0 p.f1) m, q p := by
  intro l
  induction l with
  | nil => intro m hm _; exact hm
  | cons x l ih => intro m hm hl; exact ih _ (aset_all hm _ (hl x (by simp))) (fun p hp => hl p (by simp [hp]))
 exact this l [] (fun p hp => by cases hp) h
theorem yng_bd {n : Nat} {l : List S45} (h : l.all (fun p => decide (0 ≤ p.f0 ∧ 64 * p.f0 + 64 ≤ (n : Int))) = true) : ∀ p ∈ yng l, 0 ≤ p.1 ∧ 64 * p.1 + 64 ≤ (n : Int) := yng_all (q := fun p => 0 ≤ p.1 ∧ 64 * p.1 + 64 ≤ (n : Int)) (fun p hp => of_decide_eq_true (List.all_eq_true.mp h p hp))
theorem yng_64 {l : List S45} (h : l.all (fun p => decide (p.f1.length = 64)) = true) : ∀ p ∈ yng l, p.2.length = 64 := yng_all (q := fun p => p.2.length = 64) (fun p hp => of_decide_eq_true (List.all_eq_true.mp h p hp))
theorem pend_bd {n : Nat} {l : List S45} (h : l.all (fun p => decide (0 ≤ p.f0 ∧ 64 * p.f0 + 64 ≤ (n : Int))) = true) : ∀ i : Nat, i < l.length → 0 ≤ (rd_T45 l (i : Int)).f0 ∧ 64 * (rd_T45 l (i : Int)).f0 + 64 ≤ (n : Int) := by
 intro i hi
 have h1 := of_decide_eq_true (List.all_eq_true.mp h (l[i]) (List.getElem_mem hi))
 unfold rd_T45
 simpa [hi] using h1
def impl_DiskSync.g (l0_0 : List Int) (l0_1 : List S45) : Option (List Int × List S45) := if l0_0.length ≤ 100000000 ∧ l0_1.length ≤ 1000000 ∧ 0 < l0_0.length ∧ l0_1.all (fun p => decide (p.f1.length = 64)) = true ∧ l0_1.all (fun p => decide (0 ≤ p.f0 ∧ 64 * p.f0 + 64 ≤ (l0_0.length : Int))) = true then some (syncD l0_0 (yl (yng l0_1)), []) else none
def impl_DiskSync.f (k : Nat) (l0_0 : List Int) (l0_1 : List S45) : Option (List Int × List S45) := (impl_ValidDisk.f k l0_0 l0_1).bind fun t => (if t = true then (impl_DiskSync.g l0_0 l0_1) else some ([], []))
theorem impl_DiskSync.mono : ∀ l0_0 l0_1 k, LeO (impl_DiskSync.f k l0_0 l0_1) (impl_DiskSync.f (k + 1) l0_0 l0_1) := by
 intro l0_0 l0_1 k
 unfold impl_DiskSync.f
 exact LeO.bind (impl_ValidDisk.mono _ _ _) (fun _ => LeO.refl _)
set_option maxHeartbeats 8000000 in
set_option maxRecDepth 100000 in
theorem impl_DiskSync.calls (k : Nat) (A0_0 : Option Addr) (c0_0 : Nat) (l0_0 : List Int) (A0_1 : Option Addr) (c0_1 : Nat) (l0_1 : List S45) (r1 : List Int) (r2 : List S45) (w : World) (hr0_0 : Kd.C (Kd.int .u8) w A0_0 l0_0.length l0_0) (hc0_0 : l0_0.length ≤ c0_0) (hr0_1 : Kd.C k45 w A0_1 l0_1.length l0_1) (hc0_1 : l0_1.length ≤ c0_1) (h : impl_DiskSync.f k l0_0 l0_1 = some (r1, r2)) :
  Calls Try.prog 20 #[.agg #[.slice A0_0 l0_0.length c0_0, .slice A0_1 l0_1.length c0_1]] w fun e w' => ∃ v0_ v1_ : Value, e = .returned (.agg #[v0_, v1_]) ∧ Kd.R (Kd.int .u8) 5 w' w.heap.size (fun _ => True) v0_ r1 ∧ Kd.S k45 45 w' w.heap.size (fun k_ => some k_ ≠ (v0_ : Value).ownBlock) v1_ r2 ∧ Below w.heap.size w w' := by
 have HR0 := Aside0.mk hr0_0
 have HC0 := Aside0.mk hc0_0
 have HR1 := Aside0.mk hr0_1
 have HC1 := Aside0.mk hc0_1
 clear hr0_0 hc0_0 hr0_1 hc0_1
 unfold impl_DiskSync.f at h
 obtain ⟨t, ht, h⟩ := Option.bind_eq_some_iff.mp h
 have HVD := Aside0.mk ht
 clear ht
 cases t with
 | false =>
  rw [if_neg (by decide)] at h
  simp only [Option.some.injEq, Prod.mk.injEq] at h
  obtain ⟨rfl, rfl⟩ := h
  go_enter Try.func20, Try.ntmps20
  go_wp2_with (first | ((with_reducible refine zt (N := 1) rfl ?_); refine Go.Proofs.YtejecjjimggjeaaH.box_arr (cs := #[.slice A0_0 l0_0.length c0_0, .slice A0_1 l0_1.length c0_1]) rfl (t := 35) rfl (N := 1) rfl rfl ?_; intro g1 hg1 w1 hA1 hb_; have HA1 := Aside0.mk hA1; have HB1 := Aside0.mk hb_; clear hA1 hb_ hg1) | ((with_reducible refine zt (N := 2) rfl ?_); refine Go.Proofs.YtejecjjimggjeaaH.alloc_arr rfl (t := 35) rfl (N := 2) rfl (zs := #[.slice none 0 0, .slice none 0 0]) (n := 2) (by kernel_rfl) ?_; intro g6 hg6 w2 hA6 hb_ _; have HA6 := Aside0.mk hA6; have HA12 := Aside0.mk ((hb_.block _ (zr HA1.out)).trans HA1.out); have HB2 := Aside0.mk (zk HB1.out hb_); have HGE6 := Aside0.mk (show w.heap.size ≤ g6 by (rw [hg6]; exact HB1.out.size)); have hc10 : w2.cell? ⟨g1, 0, none⟩ = some (.slice A0_0 l0_0.length c0_0) := (zb HA12.out 0).trans rfl; have hc11 : w2.cell? ⟨g1, 1, none⟩ = some (.slice A0_1 l0_1.length c0_1) := (zb HA12.out 1).trans rfl; clear hA6 hb_ hg6) | ((with_reducible refine zo (f := 39) rfl ?_); refine zC (some 5) rfl rfl Try.func39 (by kernel_rfl) rfl #[.agg #[.slice A0_0 l0_0.length c0_0, .slice A0_1 l0_1.length c0_1]] rfl (by (try simp only [List.map_toArray, List.map_cons, List.map_nil]); first | done | rfl) ?_; refine (impl_ValidDisk.calls k A0_0 c0_0 l0_0 A0_1 c0_1 l0_1 _ w2 (Kd.C_below HR0.out HB2.out) HC0.out (Kd.C_below HR1.out HB2.out) HC1.out HVD.out).mono ?_; rintro e w3 ⟨rfl, hb_⟩; refine ⟨_, rfl, ?_⟩; have HA13 := Aside0.mk ((hb_.block _ (zr HA12.out)).trans HA12.out); have HA63 := Aside0.mk ((hb_.block _ (zr HA6.out)).trans HA6.out); have HB3 := Aside0.mk (zk HB2.out hb_); clear hb_ hc10 hc11; have hc10 : w3.cell? ⟨g1, 0, none⟩ = some (.slice A0_0 l0_0.length c0_0) := (zb HA13.out 0).trans rfl; have hc11 : w3.cell? ⟨g1, 1, none⟩ = some (.slice A0_1 l0_1.length c0_1) := (zb HA13.out 1).trans rfl) | (refine Go.Proofs.YtejecjjimggjeaaH.store_arr (g := g6) (cells := #[.slice none 0 0, .slice none 0 0]) rfl (t := 35) rfl rfl rfl rfl HA63.out (by kernel_rfl) rfl (by kernel_rfl) ?_; intro w9 hA9 hg9; have HA9 := Aside0.mk hA9; have HB9 := Aside0.mk (zv HB3.out (some g6) HB3.out.size hg9 (fun k_ hk_ => by injection hk_ with hk_; exact hk_ ▸ HGE6.out)); clear hA9 hg9))
  refine bodyPost_ret (results_cell_row rfl _ _ g6 35 _ (0, 0) _ rfl HA9.out Try.underlying35 rfl (by kernel_rfl)) rfl ?_
  exact ⟨_, _, rfl, Kd.R_nil _ _ _ _ _, Kd.S_nil _ _ _ _ _, HB9.out⟩
 | true =>
  rw [if_pos rfl] at h
  unfold impl_DiskSync.g at h
  split at h
  ·rename_i hg
   simp only [Option.some.injEq, Prod.mk.injEq] at h
   obtain ⟨rfl, rfl⟩ := h
   have HG1 := Aside0.mk hg.1
   have HG2 := Aside0.mk hg.2.1
   have HG3 := Aside0.mk hg.2.2.1
   have HG4 := Aside0.mk hg.2.2.2.1
   have HG5 := Aside0.mk hg.2.2.2.2
   clear hg
   go_enter Try.func20, Try.ntmps20
   go_wp2_with (first | ((with_reducible refine zt (N := 1) rfl ?_); refine Go.Proofs.YtejecjjimggjeaaH.box_arr (cs := #[.slice A0_0 l0_0.length c0_0, .slice A0_1 l0_1.length c0_1]) rfl (t := 35) rfl (N := 1) rfl rfl ?_; intro g1 hg1 w1 hA1 hb_; have HA1 := Aside0.mk hA1; have HB1 := Aside0.mk hb_; clear hA1 hb_ hg1) | ((with_reducible refine zt (N := 2) rfl ?_); refine Go.Proofs.YtejecjjimggjeaaH.alloc_arr rfl (t := 35) rfl (N := 2) rfl (zs := #[.slice none 0 0, .slice none 0 0]) (n := 2) (by kernel_rfl) ?_; intro g6 hg6 w2 hA6 hb_ _; have HA6 := Aside0.mk hA6; have HA12 := Aside0.mk ((hb_.block _ (zr HA1.out)).trans HA1.out); have HB2 := Aside0.mk (zk HB1.out hb_); have HGE6 := Aside0.mk (show w.heap.size ≤ g6 by (rw [hg6]; exact HB1.out.size)); have hc10 : w2.cell? ⟨g1, 0, none⟩ = some (.slice A0_0 l0_0.length c0_0) := (zb HA12.out 0).trans rfl; have hc11 : w2.cell? ⟨g1, 1, none⟩ = some (.slice A0_1 l0_1.length c0_1) := (zb HA12.out 1).trans rfl; clear hA6 hb_ hg6) | ((with_reducible refine zo (f := 39) rfl ?_); refine zC (some 5) rfl rfl Try.func39 (by kernel_rfl) rfl #[.agg #[.slice A0_0 l0_0.length c0_0, .slice A0_1 l0_1.length c0_1]] rfl (by (try simp only [List.map_toArray, List.map_cons, List.map_nil]); first | done | rfl) ?_; refine (impl_ValidDisk.calls k A0_0 c0_0 l0_0 A0_1 c0_1 l0_1 _ w2 (Kd.C_below HR0.out HB2.out) HC0.out (Kd.C_below HR1.out HB2.out) HC1.out HVD.out).mono ?_; rintro e w3 ⟨rfl, hb_⟩; refine ⟨_, rfl, ?_⟩; have HA13 := Aside0.mk ((hb_.block _ (zr HA12.out)).trans HA12.out); have HA63 := Aside0.mk ((hb_.block _ (zr HA6.out)).trans HA6.out); have HB3 := Aside0.mk (zk HB2.out hb_); clear hb_ hc10 hc11; have hc10 : w3.cell? ⟨g1, 0, none⟩ = some (.slice A0_0 l0_0.length c0_0) := (zb HA13.out 0).trans rfl; have hc11 : w3.cell? ⟨g1, 1, none⟩ = some (.slice A0_1 l0_1.length c0_1) := (zb HA13.out 1).trans rfl) | ((with_reducible refine zo (f := 41) rfl ?_); refine zC (some 9) rfl rfl Try.func41 (by kernel_rfl) rfl #[.agg #[.slice A0_0 l0_0.length c0_0, .slice A0_1 l0_1.length c0_1]] rfl (by (try simp only [List.map_toArray, List.map_cons, List.map_nil]); first | done | rfl) ?_; refine (spin_c w3 A0_0 c0_0 l0_0 A0_1 c0_1 l0_1 (Kd.C_below HR0.out HB3.out) HC0.out (Kd.C_below HR1.out HB3.out) HC1.out (pend_all HG4.out) HG1.out HG2.out).mono ?_; rintro e w5 ⟨gp, gy, gm, vD, vP, vK, rfl, hP, hb_⟩; refine ⟨_, rfl, ?_⟩; have HP := Aside0.mk hP; have HA65 := Aside0.mk ((hb_.block _ (zr HA63.out)).trans HA63.out); have HS45 := Aside0.mk hb_; have HB5 := Aside0.mk (zk HB3.out hb_); have HL6 := Aside0.mk (zr HA63.out); clear hP hb_ hc10 hc11) | ((with_reducible refine zo (f := 49) rfl ?_); refine zC (some 11) rfl rfl Try.func49 (by kernel_rfl) rfl #[.pointer (some ⟨gp, 0, none⟩)] rfl (by (try simp only [List.map_toArray, List.map_cons, List.map_nil]); first | done | rfl) ?_; refine (sync_c w3 w5 _ gp l0_0 l0_1 (yng l0_1) gy gm vD vP vK HP.out (Nat.le_refl _) HS45.out (yng_bd HG5.out) (Nat.le_trans (yng_len _) HG2.out) HG3.out HG1.out).mono ?_; rintro e w6 ⟨rfl, gy', gm', hP, hb_, hk_⟩; refine ⟨_, rfl, ?_⟩; have HP6 := Aside0.mk hP; have HA66 := Aside0.mk ((hk_.2 g6 (zr HA65.out) (fun h_ => by have := HL6.out; omega)).trans HA65.out); have HB46 := Aside0.mk hb_; have HB6 := Aside0.mk (zk HB3.out HB46.out); clear hP hb_ hk_) | ((with_reducible refine zo (f := 43) rfl ?_); refine zC (some 13) rfl rfl Try.func43 (by kernel_rfl) rfl #[.pointer (some ⟨gp, 0, none⟩)] rfl (by (try simp only [List.map_toArray, List.map_cons, List.map_nil]); first | done | rfl) ?_; refine (disk_c w6 w3.heap.size _ gp (syncD l0_0 (yl (yng l0_1))) [] [] gy' gm' vD (.slice none 0 0) (.slice none 0 0) HP6.out (Nat.le_refl _) (by rw [syncD_len _ (yl_ok (yng_64 HG4.out) (yng_bd HG5.out))]; exact HG1.out) (by simp) (fun i hi => absurd hi (Nat.not_lt_zero _))).mono ?_; rintro e w7 ⟨v0, v1, rfl, hr_, hs_, hb_⟩; obtain ⟨Av0, cv0, ev0⟩ := Kd.R_slice hr_; subst ev0; obtain ⟨Av1, cv1, ev1⟩ := Kd.S_slice hs_; subst ev1; refine ⟨_, rfl, ?_⟩; have HR7 := Aside0.mk (Kd.R_lower hr_ HB6.out.size); have HS7 := Aside0.mk (Kd.S_lower hs_ HB6.out.size); have HA67 := Aside0.mk ((hb_.block _ (zr HA66.out)).trans HA66.out); have HB7 := Aside0.mk (zk HB6.out hb_); clear hr_ hs_ hb_) | (refine Go.Proofs.YtejecjjimggjeaaH.store_arr (g := g6) (cells := #[.slice Av0 (syncD l0_0 (yl (yng l0_1))).length cv0, .slice Av1 ([] : List S45).length cv1]) rfl (t := 35) rfl rfl rfl rfl HA67.out (by kernel_rfl) rfl (by kernel_rfl) ?_; intro w9 hA9 hg9; have HA9 := Aside0.mk hA9; have HG9 := Aside0.mk hg9; have HB9 := Aside0.mk (zv HB7.out (some g6) HB7.out.size hg9 (fun k_ hk_ => by injection hk_ with hk_; exact hk_ ▸ HGE6.out)); clear hA9 hg9))
   refine bodyPost_ret (results_cell_row rfl _ _ g6 35 _ (0, 0) _ rfl HA9.out Try.underlying35 rfl (by kernel_rfl)) rfl ?_
   exact ⟨_, _, rfl, Kd.R_mono (Kd.R_grown (Kd.R_types HR7.out HA67.out (by decide)) HG9.out (fun k_ hk_ e_ => hk_.2 (by injection e_))) (fun _ _ => trivial), Kd.S_mono (Kd.S_grown (Kd.S_types HS7.out HA67.out (by decide)) HG9.out (fun k_ hk_ e_ => hk_.2 (by injection e_))) (fun _ hk_ => hk_.1), HB9.out⟩
  ·cases h

def laws_lwAt.f (l0 : List Int) (a1 : Int) (a2 : Int) : Option (Int) := if a2 ≤ 1 then (some 0) else (if (l0.length : Int) = 0 then (if a2 = 0 then (none) else (some (Int.tmod (wrap64 (a1 * 7)) a2))) else (if 0 ≤ (Int.tmod a1 (l0.length : Int)) then (if (Int.tmod a1 (l0.length : Int)) < (l0.length : Int) then (if a2 = 0 then (none) else (some (Int.tmod (wrap64 ((wrap64 (rd l0 (Int.tmod a1 (l0.length : Int)))) + (wrap64 (Int.tdiv a1 (l0.length : Int))))) a2))) else (none)) else (none)))
set_option maxHeartbeats 8000000 in
set_option maxRecDepth 100000 in
theorem laws_lwAt.calls (A0 : Option Addr) (c0 : Nat) (l0 : List Int) (a1 : Int) (a2 : Int) (r : Int) (w : World) (hr0 : Kd.C (Kd.int .u8) w A0 l0.length l0) (hc0 : l0.length ≤ c0) (h : laws_lwAt.f l0 a1 a2 = some r) :
  Calls Try.prog 23 #[.slice A0 l0.length c0, .int .i64 a1, .int .i64 a2] w fun e w' => e = .returned (.int .i64 r) ∧ Drawn0 w w' := by
 have HR0 := Aside0.mk hr0
 have HC0 := Aside0.mk hc0
 clear hr0 hc0
 have H : (if a2 ≤ 1 then (some 0) else (if (l0.length : Int) = 0 then (if a2 = 0 then (none) else (some (Int.tmod (wrap64 (a1 * 7)) a2))) else (if 0 ≤ (Int.tmod a1 (l0.length : Int)) then (if (Int.tmod a1 (l0.length : Int)) < (l0.length : Int) then (if a2 = 0 then (none) else (some (Int.tmod (wrap64 ((wrap64 (rd l0 (Int.tmod a1 (l0.length : Int)))) + (wrap64 (Int.tdiv a1 (l0.length : Int))))) a2))) else (none)) else (none)))) = some r := h
 clear h
 by_cases c4 : a2 ≤ 1
 ·rw [if_pos c4] at H
  have c4b0 : decide (a2 ≤ 1) = true := decide_eq_true c4
  clear c4
  obtain rfl := Option.some.inj H
  go_enter Try.func23, Try.ntmps23
  go_wp2
  repeat (go_quiet (fail); try go_wp2)
  go_ret
  exact ⟨by first | rfl | (simp; done) | (simp [*]; done), by repeat (first | exact Drawn0.refl _ | apply Drawn0.step)⟩
 ·rw [if_neg c4] at H
  have c4b0 : decide (a2 ≤ 1) = false := decide_eq_false c4
  clear c4
  by_cases c5 : (l0.length : Int) = 0
  ·rw [if_pos c5] at H
   have c5b0 : ((l0.length : Int) == 0) = true := beq_iff_eq.mpr c5
   have c5b1 : ((l0.length : Int) != 0) = false := bne_eq_false_iff_eq.mpr c5
   clear c5
   by_cases c6 : a2 = 0
   ·rw [if_pos c6] at H
    exact absurd H (by simp)
   ·rw [if_neg c6] at H
    have c6b0 : (a2 == 0) = false := beq_eq_false_iff_ne.mpr c6
    have c6b1 : (a2 != 0) = true := bne_iff_ne.mpr c6
    obtain rfl := Option.some.inj H
    go_enter Try.func23, Try.ntmps23
    go_wp2
    repeat (go_quiet (fail); try go_wp2)
    go_ret
    exact ⟨by first | rfl | (simp; done) | (simp [*]; done), by repeat (first | exact Drawn0.refl _ | apply Drawn0.step)⟩
  ·rw [if_neg c5] at H
   have c5b0 : ((l0.length : Int) == 0) = false := beq_eq_false_iff_ne.mpr c5
   have c5b1 : ((l0.length : Int) != 0) = true := bne_iff_ne.mpr c5
   have c5b2 : ¬ (l0 = []) := fun h_ => c5 (by rw [h_]; rfl)
   obtain ⟨ji7, hji7⟩ : ∃ j_ : Int, (Int.tmod a1 (l0.length : Int)) = j_ := ⟨_, rfl⟩
   replace H : (if 0 ≤ (ji7) then (if (ji7) < (l0.length : Int) then (if a2 = 0 then (none) else (some (Int.tmod (wrap64 ((wrap64 (rd l0 (ji7))) + (wrap64 (Int.tdiv a1 (l0.length : Int))))) a2))) else (none)) else (none)) = some r := by first | (rw [hji7] at H; exact H) | (simp only [hji7] at H ⊢; exact H)
   by_cases c8 : 0 ≤ (ji7)
   ·rw [if_pos c8] at H
    have c8b0 : decide (0 ≤ (ji7)) = true := decide_eq_true c8
    clear c8
    by_cases c9 : (ji7) < (l0.length : Int)
    ·rw [if_pos c9] at H
     have c9b0 : decide ((ji7) < (l0.length : Int)) = true := decide_eq_true c9
     clear c9
     by_cases c10 : a2 = 0
     ·rw [if_pos c10] at H
      exact absurd H (by simp)
     ·rw [if_neg c10] at H
      have c10b0 : (a2 == 0) = false := beq_eq_false_iff_ne.mpr c10
      have c10b1 : (a2 != 0) = true := bne_iff_ne.mpr c10
      obtain rfl := Option.some.inj H
      have p354 : 0 ≤ ((ji7) : Int) := of_decide_eq_true (by first | (with_reducible assumption) | assumption)
      have q354 : (ji7) < (l0.length : Int) := of_decide_eq_true (by first | (with_reducible assumption) | assumption)
      obtain ⟨ad354, e354, hx354_0⟩ := Kd.at_int HR0.out (ji7) p354 q354
      cases e354
      replace p354 := eq_true p354
      replace q354 := eq_true q354
      go_enter Try.func23, Try.ntmps23
      go_wp2
      repeat (go_quiet (fail); try go_wp2)
      go_ret
      exact ⟨by first | rfl | (simp; done) | (simp only [← hji7] <;> (first | rfl | simp)) | (simp [*]; done), by repeat (first | exact Drawn0.refl _ | apply Drawn0.step)⟩
    ·rw [if_neg c9] at H
     exact absurd H (by simp)
   ·rw [if_neg c8] at H
    exact absurd H (by simp)

def laws_lwChoices.l0 : Nat → List Int → Int → List Int → Int → Option (List Int)
 | 0, _, _, _, _ => none
 | k + 1, x0, x1, x5, x6 => if x6 < 6 then ((laws_lwAt.f x0 (wrap64 (x1 + x6)) 70).bind fun t358 => (if x5.length < 17592186044416 then (laws_lwChoices.l0 k x0 x1 (x5 ++ [wrap64 (t358 - 2)]) (wrap64 (x6 + 1))) else (none))) else (some x5)
def laws_lwChoices.f (k : Nat) (l0 : List Int) (a1 : Int) : Option (List Int) := laws_lwChoices.l0 k l0 a1 (([] : List Int)) 0
theorem laws_lwChoices.mono_l : ∀ k, (∀ y0 y1 y2 y3, LeO (laws_lwChoices.l0 k y0 y1 y2 y3) (laws_lwChoices.l0 (k + 1) y0 y1 y2 y3))
 | 0 => fun _ _ _ _ r h => by simp [laws_lwChoices.l0] at h
 | k + 1 => by
  have ih0 := laws_lwChoices.mono_l k
  ·intro y0 y1 y2 y3
   unfold laws_lwChoices.l0
   repeat' first
   | (with_reducible exact ih0 _ _ _ _)
   | (with_reducible exact LeO.refl _)
   | (with_reducible exact LeO.none _)
   | (with_reducible refine LeO.ite ?_ ?_)
   | (with_reducible refine LeO.bind ?_ (fun _ => ?_))
   | exact ih0 _ _ _ _
   | exact LeO.none _
   | refine LeO.ite ?_ ?_
   | refine LeO.bind ?_ (fun _ => ?_)
theorem laws_lwChoices.mono : ∀ a0 a1 k, LeO (laws_lwChoices.f k a0 a1) (laws_lwChoices.f (k + 1) a0 a1) := by
 intro a0 a1 k
 have ih0 := laws_lwChoices.mono_l k
 unfold laws_lwChoices.f
 repeat' first
   | (with_reducible exact ih0 _ _ _ _)
   | (with_reducible exact LeO.refl _)
   | (with_reducible exact LeO.none _)
   | (with_reducible refine LeO.ite ?_ ?_)
   | (with_reducible refine LeO.bind ?_ (fun _ => ?_))
   | exact ih0 _ _ _ _
   | exact LeO.none _
   | refine LeO.ite ?_ ?_
   | refine LeO.bind ?_ (fun _ => ?_)
set_option maxHeartbeats 8000000 in
set_option maxRecDepth 100000 in
theorem laws_lwChoices.calls (k : Nat) (A0 : Option Addr) (c0 : Nat) (l0 : List Int) (a1 : Int) (r : List Int) (w : World) (hr0 : Kd.C (Kd.int .u8) w A0 l0.length l0) (hc0 : l0.length ≤ c0) (h : laws_lwChoices.f k l0 a1 = some r) :
  Calls Try.prog 21 #[.slice A0 l0.length c0, .int .i64 a1] w fun e w' => ∃ v0_ : Value, e = .returned (v0_) ∧ Kd.R (Kd.int .i64) 2 w' w.heap.size (fun _ => True) v0_ r ∧ Below w.heap.size w w' := by
 have HR0 := Aside0.mk hr0
 have HC0 := Aside0.mk hc0
 clear hr0 hc0
 have HB := Aside0.mk (Below.refl w.heap.size w)
 have H : (laws_lwChoices.l0 k l0 a1 (([] : List Int)) 0) = some r := h
 clear h
 obtain ⟨y355, hy355⟩ : ∃ y_ : List Int, y_ = (([] : List Int)) := ⟨_, rfl⟩
 replace H : (laws_lwChoices.l0 k l0 a1 y355 0) = some r := by first | (rw [hy355]; with_reducible exact H) | (have H2_ := (Option.bind_some _ _).symm.trans H; rw [hy355]; with_reducible exact H2_) | (have H2_ := (Option.bind_some _ _).symm.trans H; with_reducible exact H2_) | with_reducible exact H | (rw [hy355]; exact H) | exact H
 have Ny355 := Aside0.mk hy355
 clear hy355
 have H' := Aside0.mk H
 clear H
 go_enter Try.func21, Try.ntmps21
 go_wp2_with (first | ((with_reducible refine zt (N := 7) rfl ?_); refine Kd.R_lit (Kd.int .i64) _ 2 ?hg (N := 7) ?hd (xs := ([] : List Int)) (inner := []) (ok := fun _ => True) (okp := fun _ => True) ?hr ?hp (fun _ hk => hk) trivial (Below.refl _ _) (Nat.le_refl _) (by simp) ?_; (case hd => rfl); (case hg => rfl); (case hr => first | (go_simp; done) | (go_simp; rfl)); (case hp => exact (Reps.none _ _)); intro v356 w3 zG hb hg_ hnew_; clear hg_ hnew_; (first | rw [← Ny355.out] at zG | (simp only [Int.reduceToNat] at zG; rw [← Ny355.out] at zG)); have n0_ := Aside0.mk (Kd.R_lower zG (zm (by exact bl HB.out))); have n1_ := Aside0.mk (zk (by exact bl HB.out) hb); clear HB; have zI := n0_; have HB := n1_; clear n0_ n1_; clear hb zG))
 go_loopg [5, 6] k (fun kq v5 v6 w' => ∃ (x5_1 : List Int) (x6_1 : Int), v6 = .int .i64 x6_1 ∧ Aside0 (laws_lwChoices.l0 kq l0 a1 x5_1 x6_1 = some r) ∧ Aside0 (kq ≤ k) ∧ Aside0 (Kd.R (Kd.int .i64) 2 w' w.heap.size (fun _ => True) v5 x5_1) ∧ Aside0 (Below w.heap.size w w'))
 case atStart => exact ⟨(y355), (0), (by first | rfl | (simp; done) | (simp [*]; done)), H', ⟨Nat.le_refl _⟩, ⟨RL zI.out⟩, ⟨by repeat (first | (with_reducible first | exact HB.out | apply zf | apply ze | apply zi) | exact HB.out)⟩⟩
 case round =>
  clear H'
  try clear c2
  try clear p2
  obtain ⟨x5_1, x6_1, rfl, HA, HK1, zH, HB⟩ := hrel
  cases gk with
  | zero => exact absurd HA.out (by simp [laws_lwChoices.l0])
  | succ k1 =>
   have H := HA.out
   clear HA
   simp only [laws_lwChoices.l0] at H
   by_cases c5 : x6_1 < 6
   ·rw [if_pos c5] at H
    have c5b0 : decide (x6_1 < 6) = true := decide_eq_true c5
    clear c5
    replace H := Option.bind_eq_some_iff.mp H
    obtain ⟨t358, A60, H⟩ := H
    replace H : (if x5_1.length < 17592186044416 then (laws_lwChoices.l0 k1 l0 a1 (x5_1 ++ [wrap64 (t358 - 2)]) (wrap64 (x6_1 + 1))) else (none)) = some r := H
    have A6 := Aside0.mk A60
    clear A60
    by_cases c7 : x5_1.length < 17592186044416
    ·rw [if_pos c7] at H
     have LMc7 := Aside0.mk c7
     clear c7
     obtain ⟨y359, hy359⟩ : ∃ y_ : List Int, y_ = (x5_1 ++ [wrap64 (t358 - 2)]) := ⟨_, rfl⟩
     replace H : (laws_lwChoices.l0 k1 l0 a1 y359 (wrap64 (x6_1 + 1))) = some r := by first | (rw [hy359]; with_reducible exact H) | (have H2_ := (Option.bind_some _ _).symm.trans H; rw [hy359]; with_reducible exact H2_) | (have H2_ := (Option.bind_some _ _).symm.trans H; with_reducible exact H2_) | with_reducible exact H | (rw [hy359]; exact H) | exact H
     have Ny359 := Aside0.mk hy359
     clear hy359
     have H' := Aside0.mk H
     clear H
     go_wp2_with (first | ((with_reducible refine zo (f := 23) rfl ?_); refine zC (some 17) rfl rfl Try.func23 (by kernel_rfl) rfl #[.slice A0 l0.length c0, .int .i64 (wrap64 (a1 + x6_1)), .int .i64 70] rfl (by (try simp only [List.map_toArray, List.map_cons, List.map_nil]); first | done | rfl) ?_; (with_reducible refine (laws_lwAt.calls _ _ l0 (wrap64 (a1 + x6_1)) 70 t358 _ ?side1 ?side2 A6.out).mono ?_); (case side1 => repeat (first | exact (Kd.C_below HR0.out HB.out) | (with_reducible refine Kd.C_alloc ?_ _) | (with_reducible refine Kd.C_drewN ?_ _) | (with_reducible refine Kd.C_drew ?_))); (case side2 => exact HC0.out); rintro e w' ⟨rfl, ⟨nd, rfl⟩⟩; refine ⟨_, rfl, ?_⟩) | ((with_reducible refine gate_builtin (b := .append) (xs := #[.tmp 12, .tmp 19]) rfl ?_); at_builtin; refine Kd.R_append (Kd.int .i64) (w0 := w) w.heap.size rfl (.tmp 12) (.tmp 19) 42 2 (.int .i64 0) 8 rfl Try.underlying42 info2 rfl (by decide) (by omega) u5 x5_1 (wrap64 (t358 - 2)) [.int .i64 (wrap64 (t358 - 2))] (fun _ => True) (fun _ => False) rfl rfl ?aP (fun _ hk => hk.elim) ?aF ?aO ?aB ?aS ?aL ?_; (case aP => exact rfl); (case aB => exact (by exact bl HB.out)); (case aF => exact (fun _ _ => trivial)); (case aO => exact (RL zH.out)); (case aS => exact (zm (by exact bl HB.out))); (case aL => have := LMc7.out; omega); intro v360 w8 ho hb hg hat; rw [← Ny359.out] at ho; have n0_ := Aside0.mk (hb); have n1_ := Aside0.mk (ho); clear HB; clear zH; have HB := n0_; have zJ := n1_; clear n0_ n1_; clear ho hb hg hat))
     go_roundg k1
     case measure => have := HK1.out; omega
     case rel => exact ⟨(y359), (wrap64 (x6_1 + 1)), (by first | rfl | (simp; done) | (simp [*]; done)), H', ⟨by have := HK1.out; omega⟩, ⟨RL zJ.out⟩, ⟨by repeat (first | (with_reducible first | exact HB.out | apply zf | apply ze | apply zi) | exact HB.out)⟩⟩
    ·rw [if_neg c7] at H
     exact absurd H (by simp)
   ·rw [if_neg c5] at H
    have c5b0 : decide (x6_1 < 6) = false := decide_eq_false c5
    clear c5
    obtain rfl := Option.some.inj H
    go_wp2
    go_ret
    exact ⟨_, by first | rfl | (simp [errW_none, errW_some] <;> rfl) | (simp [*, errW_none, errW_some] <;> rfl), RL zH.out, by repeat (first | (with_reducible first | exact HB.out | apply zf | apply ze | apply zi) | exact HB.out)⟩

end Go.Proofs.Ytejecjjimggjeaa.GFnSync
