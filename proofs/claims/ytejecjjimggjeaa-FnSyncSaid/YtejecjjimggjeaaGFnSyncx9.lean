/- Written by give.py, a program of this session, that runs the kit's print and lays contracts proved by hand beside it. -/
import Derived.Test.YtejecjjimggjeaaGFnSyncx0
import Derived.Test.YtejecjjimggjeaaGFnSyncx8
namespace Go.Proofs.Ytejecjjimggjeaa.GFnSync
open Go.RowKit Go.Proofs.YtejecjjimggjeaaW.PrintWords Go.Proofs.YtejecjjimggjeaaW.PrintLast Go.Proofs.YtejecjjimggjeaaW.PrintMore
attribute [local go_sem] max2_int min2_int max_two min_two max_three min_three max_four min_four
attribute [local go_sem high] Go.Proofs.YtejecjjimggjeaaH.str_leq Go.Proofs.YtejecjjimggjeaaH.str_geq Go.Proofs.YtejecjjimggjeaaH.str_gtr   -- for this text's walks alone
set_option linter.unusedVariables false
set_option linter.unusedSimpArgs false

def arrV (l : List Int) : Value := .agg (l.map (Value.int .u8)).toArray
def z64 : List Int := List.replicate 64 0
theorem arrV_z64 : arrV z64 = .agg (Array.replicate 64 (.int .u8 0)) := by unfold arrV z64; rw [List.map_replicate, List.toArray_replicate]
theorem arr_size {l : List Int} (h : l.length = 64) : (l.map (Value.int .u8)).toArray.size = 64 := by simp [h]
theorem arr_one (l : List Int) : (l.map (Value.int .u8)).toArray.all (·.oneCell') = true := by
 apply all_oneCell_toArray; intro v_ hv_; obtain ⟨x_, _, rfl⟩ := List.mem_map.mp hv_; rfl
structure Plat (W : World) (B s gp : Nat) (dur : List Int) (pend : List S45) (m : List (Int × List Int)) (gy gm : Nat) (vD vP vK : Value) : Prop where
 bp : W.heap[gp]? = some (.cells #[vD, vP, .pointer (some ⟨gy, 0, none⟩)] 97 (0, 0))
 bo : W.heap[gy]? = some (.cells #[vK, .map (some gm)] 115 (0, 0))
 bm : YtejecjjimggjeaaH.MapIs (Value.int .i64) arrV W gm m
 rd : (Kd.int .u8).R 5 W B (fun k => k < s) vD dur
 rp : k45.R 45 W B (fun k => k < s ∧ some k ≠ vD.ownBlock) vP pend
 rk : (Kd.int .i64).R 2 W B (fun k => k < s) vK (m.map Prod.fst)
 pp : B ≤ gp ∧ gp < s
 po : B ≤ gy ∧ gy < s
 pm : B ≤ gm ∧ gm < s
 m64 : ∀ p ∈ m, p.2.length = 64
theorem Plat.move {W w' : World} {B s s' gp : Nat} {dur : List Int} {pend : List S45} {m : List (Int × List Int)} {gy gm : Nat} {vD vP vK : Value} (h : Plat W B s gp dur pend m gy gm vD vP vK) (hm : ∀ k, B ≤ k → k < s → w'.heap[k]? = W.heap[k]?) (hs : s ≤ s') : Plat w' B s' gp dur pend m gy gm vD vP vK where
 bp := (hm _ h.pp.1 h.pp.2).trans h.bp
 bo := (hm _ h.po.1 h.po.2).trans h.bo
 bm := h.bm.move (hm _ h.pm.1 h.pm.2)
 rd := Kd.R_mono (Kd.R_move (Kd.R_bound h.rd) (fun k hk => hm k hk.2.1 hk.1)) (fun k hk => Nat.lt_of_lt_of_le hk.1 hs)
 rp := Kd.R_mono (Kd.R_move (Kd.R_bound h.rp) (fun k hk => hm k hk.2.1 hk.1.1)) (fun k hk => ⟨Nat.lt_of_lt_of_le hk.1.1 hs, hk.1.2⟩)
 rk := Kd.R_mono (Kd.R_move (Kd.R_bound h.rk) (fun k hk => hm k hk.2.1 hk.1)) (fun k hk => Nat.lt_of_lt_of_le hk.1 hs)
 pp := ⟨h.pp.1, Nat.lt_of_lt_of_le h.pp.2 hs⟩
 po := ⟨h.po.1, Nat.lt_of_lt_of_le h.po.2 hs⟩
 pm := ⟨h.pm.1, Nat.lt_of_lt_of_le h.pm.2 hs⟩
 m64 := h.m64
theorem Plat.below {W w' : World} {B s gp : Nat} {dur : List Int} {pend : List S45} {m : List (Int × List Int)} {gy gm : Nat} {vD vP vK : Value} (h : Plat W B s gp dur pend m gy gm vD vP vK) (hs : s ≤ W.heap.size) (hb : Below W.heap.size W w') : Plat w' B s gp dur pend m gy gm vD vP vK :=
 h.move (fun k _ h2 => hb.block k (by omega)) (Nat.le_refl _)
theorem run_look64 {W : World} {gm : Nat} {m : List (Int × List Int)} (h : YtejecjjimggjeaaH.MapIs (Value.int .i64) arrV W gm m) (b : Int) :
  (Instr.lookup 113 (.map (some gm)) (.int .i64 b) true).run Try.prog W = .ok (.tuple #[arrV ((YtejecjjimggjeaaH.aget m b).getD z64), .bool (YtejecjjimggjeaaH.aget m b).isSome]) W := by
 have hz : ∀ w, (zeroValue 76).run Try.prog w = .ok (arrV z64) w := fun w => by
  rw [arrV_z64]; exact (zero_of_info (P := Try.prog) (n := 64) (show (Try.prog.info? 76).map (fun i => (i.zero, i.size)) = some (some (.agg (Array.replicate 64 (.int .u8 0))), 64) by kernel_rfl)).1 w
 have := YtejecjjimggjeaaH.run_lookup (YtejecjjimggjeaaH.int_key Try.underlying2) Try.underlying113 b (arrV z64) hz h
 rw [this]
 cases YtejecjjimggjeaaH.aget m b <;> rfl
theorem aget_64 {m : List (Int × List Int)} (h : ∀ p ∈ m, p.2.length = 64) (b : Int) : ((YtejecjjimggjeaaH.aget m b).getD z64).length = 64 := by
 induction m with
 | nil => rfl
 | cons p m ih =>
  simp only [YtejecjjimggjeaaH.aget]
  by_cases c : p.1 = b
  ·rw [if_pos c]; exact h p (by simp)
  ·rw [if_neg c]; exact ih (fun q hq => h q (by simp [hq]))
theorem aset_64 {m : List (Int × List Int)} (h : ∀ p ∈ m, p.2.length = 64) (b : Int) {d : List Int} (hd : d.length = 64) : ∀ p ∈ YtejecjjimggjeaaH.aset m b d, p.2.length = 64 := by
 induction m with
 | nil => intro p hp; simp only [YtejecjjimggjeaaH.aset, List.mem_singleton] at hp; subst hp; exact hd
 | cons q m ih =>
  intro p hp
  obtain ⟨k', v'⟩ := q
  simp only [YtejecjjimggjeaaH.aset] at hp
  by_cases c : k' = b
  ·rw [if_pos c] at hp
   rcases List.mem_cons.mp hp with rfl | hp
   ·exact hd
   ·exact h p (by simp [hp])
  ·rw [if_neg c] at hp
   rcases List.mem_cons.mp hp with rfl | hp
   ·exact h _ (by simp)
   ·exact ih (fun q hq => h q (by simp [hq])) p hp
theorem run_ldarr {o : Oper} {a : Act} {x : Operand} {w : World} {g T : Nat} {l : List Int} (ho : o.op = .load 76 x) (hx : a.eval x = .pointer (some ⟨g, 0, none⟩)) (h : w.heap[g]? = some (.cells (l.map (Value.int .u8)).toArray T (0, 0))) (hl : l.length = 64) :
  (execOp a.eval o).run Try.prog w = .ok (.value (arrV l)) w := by
 have hh := run_loadVar_row w g T 76 (l.map (Value.int .u8)).toArray (0, 0) _ h Try.underlying76 rfl (by rw [arr_size hl]; kernel_rfl)
 unfold execOp
 simp [ho, hx, Instr.loadAt, Instr.sureAddr, hh, arrV]
theorem run_exec_upd {P : Program} {o : Oper} {a : Act} {t : TypeId} {x k v : Operand} {X K V : Value} {w w1 : World} (ho : o.op = .mapUpdate t x k v) (hx : a.eval x = X) (hk : a.eval k = K) (hv : a.eval v = V) (h : (Instr.mapUpdate t X K V).run P w = .ok () w1) : (execOp a.eval o).run P w = .ok .skip w1 := by
 unfold execOp
 simp [ho, hx, hk, hv, h]
theorem ne_map {w : World} {g gm T : Nat} {cs : Array Value} {f : Nat × Nat} {m : List (Int × List Int)} (h : w.heap[g]? = some (.cells cs T f)) (hm : YtejecjjimggjeaaH.MapIs (Value.int .i64) arrV w gm m) : some g ≠ some gm := by
 intro e; injection e with e; subst e
 obtain ⟨es, c, h1, _⟩ := hm
 rw [h] at h1; cases h1
theorem Kd.R_types' {α : Type} {d : Kd α} {e base gm : Nat} {w : World} {ok : Nat → Prop} {v : Value} {xs : List α} {m : List (Int × List Int)} (h : d.R e w base ok v xs) (hm : YtejecjjimggjeaaH.MapIs (Value.int .i64) arrV w gm m) : d.R e w base (fun k => ok k ∧ k ≠ gm) v xs :=
 Kd.R_mono (Kd.R_bound h) (fun k hk => ⟨hk.1, fun e_ => by obtain ⟨_, _, q, _, cells, hc⟩ := hk.2; subst e_; exact ne_map hc hm rfl⟩)
theorem below_base {W w' : World} {B : Nat} (h : Below W.heap.size W w') (hB : B ≤ W.heap.size) : Below B W w' := below_then (Below.refl B W) hB h
theorem infoI64_ : (Try.prog.info? 2).map (fun i => (i.zero, i.size, i.bytes)) = some (some (.int .i64 0), 1, 8) := by kernel_rfl
set_option maxHeartbeats 4000000 in
set_option maxRecDepth 100000 in
theorem newOrd_c (W : World) : Calls Try.prog 68 #[] W fun e w' => ∃ gy gm, e = .returned (.pointer (some ⟨gy, 0, none⟩)) ∧ W.heap.size ≤ gy ∧ W.heap.size ≤ gm ∧
  w'.heap[gy]? = some (.cells #[.slice none 0 0, .map (some gm)] 115 (0, 0)) ∧ YtejecjjimggjeaaH.MapIs (Value.int .i64) arrV w' gm ([] : List (Int × List Int)) ∧ Below W.heap.size W w' := by
 have hmm := @run_makeMap Try.prog
 go_enter Try.func68, Try.ntmps68
 go_wp2
 go_ret
 have h0 := YtejecjjimggjeaaH.MapIs.made (ke := Value.int .i64) (ve := arrV) (κ := Int) W
 refine ⟨W.heap.size + 1, W.heap.size, rfl, by omega, Nat.le_refl _, ?_, ?_, zf (zf (Below.refl _ _) _) _⟩
 ·have := blk_new (W.alloc (.map #[] 0)) (.cells #[.slice none 0 0, .map (some W.heap.size)] 115)
  rw [World.size_alloc] at this
  exact this
 ·exact h0.move ((zf (Below.refl (W.alloc (.map #[] 0)).heap.size (W.alloc (.map #[] 0))) _).block _ (by simp))
set_option maxHeartbeats 4000000 in
set_option maxRecDepth 100000 in
theorem get_c (W : World) (gy gm : Nat) (vK : Value) (m : List (Int × List Int)) (b : Int) (bo : W.heap[gy]? = some (.cells #[vK, .map (some gm)] 115 (0, 0))) (bm : YtejecjjimggjeaaH.MapIs (Value.int .i64) arrV W gm m) (m64 : ∀ p ∈ m, p.2.length = 64) :
  Calls Try.prog 70 #[.pointer (some ⟨gy, 0, none⟩), .int .i64 b] W fun e w' => e = .returned (.tuple #[arrV ((YtejecjjimggjeaaH.aget m b).getD z64), .bool (YtejecjjimggjeaaH.aget m b).isSome]) ∧ Below W.heap.size W w' := by
 have hv := aget_64 m64 b
 obtain ⟨v, hve⟩ : ∃ v, v = (YtejecjjimggjeaaH.aget m b).getD z64 := ⟨_, rfl⟩
 obtain ⟨q, hqe⟩ : ∃ q, q = (YtejecjjimggjeaaH.aget m b).isSome := ⟨_, rfl⟩
 have HV : Aside0 (v.length = 64) := ⟨by rw [hve]; exact hv⟩
 have HVE := Aside0.mk hve
 have HQE := Aside0.mk hqe
 have BO := Aside0.mk bo
 have BM := Aside0.mk bm
 clear hv hve hqe bo bm
 go_enter Try.func70, Try.ntmps70
 go_wp2_with (first | ((with_reducible refine zt (N := 4) rfl ?_); refine Go.Proofs.YtejecjjimggjeaaH.alloc_arr rfl (t := 76) rfl (N := 4) rfl (zs := (Array.replicate 64 (.int .u8 0))) (n := 64) (by kernel_rfl) ?_; intro g4 hg4 w1 hA4 hb1 _; have BO1 := Aside0.mk ((hb1.block _ (zr BO.out)).trans BO.out); have BM1 := Aside0.mk (BM.out.move (hb1.block _ BM.out.lt)); have hc1 : w1.cell? ⟨gy, 1, none⟩ = some (.map (some gm)) := (zb BO1.out 1).trans rfl; have hlk := run_look64 BM1.out b; rw [← HVE.out, ← HQE.out] at hlk; have HA4 := Aside0.mk hA4; have HG4 := Aside0.mk hg4; have HB1 := Aside0.mk hb1; clear hA4 hg4 hb1) | ((with_reducible refine zt (N := 6) rfl ?_); refine Go.Proofs.YtejecjjimggjeaaH.alloc_arr rfl (t := 76) rfl (N := 6) rfl (zs := (Array.replicate 64 (.int .u8 0))) (n := 64) (by kernel_rfl) ?_; intro g6 hg6 w2 hA6 hb2 _; have HA4' := Aside0.mk ((hb2.block _ (zr HA4.out)).trans HA4.out); have HG6 := Aside0.mk hg6; have HB2 := Aside0.mk hb2; have HA6 := Aside0.mk hA6; clear hA6 hg6 hb2 hlk hc1) | (refine Go.Proofs.YtejecjjimggjeaaH.store_arr (g := g6) (cells := (v.map (Value.int .u8)).toArray) rfl (t := 76) rfl rfl rfl rfl HA6.out (by rw [arr_size HV.out]; kernel_rfl) (by rw [arr_size HV.out]; rfl) (arr_one v) ?_; intro w3 hA3 hg3; have HA3 := Aside0.mk hA3; have HG3 := Aside0.mk hg3; clear hA3 hg3) | ((with_reducible refine zt (N := 17) rfl ?_); refine Go.Proofs.YtejecjjimggjeaaH.load_arr (Value.int .u8) (h1 := fun _ => rfl) rfl (t := 76) (e := 5) (n := 64) (A := some ⟨g6, 0, none⟩) (xs := v) rfl (N := 17) rfl rfl Try.underlying76 (by kernel_rfl) (by omega) HV.out.symm (Kd.R_reads' (Go.Proofs.YtejecjjimggjeaaH.R_of_arr (Value.int .u8) (fun _ => rfl) (base := 0) (ok := fun _ => True) HA3.out (Nat.zero_le _) trivial (by rw [HV.out]; decide) (by rw [HV.out]; decide))).2.2 ?_; have HNE : Aside0 (some g4 ≠ some g6) := ⟨by intro e_; injection e_ with e_; have h1_ := zr HA4.out; rw [HG6.out] at e_; omega⟩; have HA4'' := Aside0.mk (zD HA4'.out HG3.out HNE.out)) | (refine Go.Proofs.YtejecjjimggjeaaH.store_arr (g := g4) (cells := (v.map (Value.int .u8)).toArray) rfl (t := 76) rfl rfl rfl rfl HA4''.out (by rw [arr_size HV.out]; kernel_rfl) (by rw [arr_size HV.out]; rfl) (arr_one v) ?_; intro w4 hA5 hg5; have HA5 := Aside0.mk hA5; have HG5 := Aside0.mk hg5; clear hA5 hg5))
 refine bodyPost_ret (results_list (rs := [.cell 4 76, .tmp 5]) rfl (by simp) (.cell g4 76 _ (0, 0) _ rfl HA5.out Try.underlying76 rfl (by rw [arr_size HV.out]; kernel_rfl) (.tmp .nil))) rfl ?_
 have hb2 : Below W.heap.size W w2 := zk HB1.out HB2.out
 have hb3 : Below W.heap.size W w3 := zv hb2 (some g6) hb2.size HG3.out (fun k_ hk_ => by injection hk_ with hk_; rw [← hk_, HG6.out]; exact HB1.out.size)
 have hb4 : Below W.heap.size W w4 := zv hb3 (some g4) hb3.size HG5.out (fun k_ hk_ => by injection hk_ with hk_; rw [← hk_, HG4.out]; exact Nat.le_refl _)
 exact ⟨by rw [← HVE.out, ← HQE.out]; rfl, hb4⟩
theorem aset_keys {m : List (Int × List Int)} {b : Int} {d v : List Int} (h : YtejecjjimggjeaaH.aget m b = some v) : (YtejecjjimggjeaaH.aset m b d).map Prod.fst = m.map Prod.fst := by
 induction m with
 | nil => cases h
 | cons p m ih =>
  obtain ⟨k', v'⟩ := p
  simp only [YtejecjjimggjeaaH.aget] at h
  simp only [YtejecjjimggjeaaH.aset]
  by_cases c : k' = b
  ·rw [if_pos c]; simp [c]
  ·rw [if_neg c] at h ⊢; simp [ih h]
theorem MapIs_drew {w : World} {gm : Nat} {m : List (Int × List Int)} (h : YtejecjjimggjeaaH.MapIs (Value.int .i64) arrV w gm m) : YtejecjjimggjeaaH.MapIs (Value.int .i64) arrV w.drew gm m := h
set_option maxHeartbeats 4000000 in
set_option maxRecDepth 100000 in
theorem set_c (W : World) (B s gy gm : Nat) (vK : Value) (m : List (Int × List Int)) (b : Int) (data : List Int) (hd : data.length = 64) (bo : W.heap[gy]? = some (.cells #[vK, .map (some gm)] 115 (0, 0))) (bm : YtejecjjimggjeaaH.MapIs (Value.int .i64) arrV W gm m) (m64 : ∀ p ∈ m, p.2.length = 64)
  (rk : (Kd.int .i64).R 2 W B (fun k => k < s) vK (m.map Prod.fst)) (po : B ≤ gy) (pm : B ≤ gm) (hB : B ≤ W.heap.size) (hs : s ≤ W.heap.size) (hl : m.length ≤ 1000000) :
  Calls Try.prog 69 #[.pointer (some ⟨gy, 0, none⟩), .int .i64 b, arrV data] W fun e w' => e = .returned (.tuple #[]) ∧ ∃ vK', w'.heap[gy]? = some (.cells #[vK', .map (some gm)] 115 (0, 0)) ∧
   YtejecjjimggjeaaH.MapIs (Value.int .i64) arrV w' gm (YtejecjjimggjeaaH.aset m b data) ∧ (Kd.int .i64).R 2 w' B (fun k => k < s ∨ W.heap.size ≤ k) vK' ((YtejecjjimggjeaaH.aset m b data).map Prod.fst) ∧ Below B W w' ∧ Kept W w' (fun k => k = gy ∨ k = gm ∨ some k = vK.ownBlock) := by
 have hv := aget_64 m64 b
 obtain ⟨v, hve⟩ : ∃ v, v = (YtejecjjimggjeaaH.aget m b).getD z64 := ⟨_, rfl⟩
 obtain ⟨q, hqe⟩ : ∃ q, q = (YtejecjjimggjeaaH.aget m b).isSome := ⟨_, rfl⟩
 have HV : Aside0 (v.length = 64) := ⟨by rw [hve]; exact hv⟩
 have HVE := Aside0.mk hve
 have HQE := Aside0.mk hqe
 have HD := Aside0.mk hd
 have BO := Aside0.mk bo
 have BM := Aside0.mk bm
 have RK := Aside0.mk rk
 have HBs := Aside0.mk hB
 have HSs := Aside0.mk hs
 have HL := Aside0.mk hl
 have HPO := Aside0.mk po
 have HPM := Aside0.mk pm
 clear hv hve hqe bo bm rk hd hB hs hl po pm m64
 cases q with
 | true =>
  go_enter Try.func69, Try.ntmps69
  go_wp2_with (first | ((with_reducible refine zt (N := 5) rfl ?_); refine Go.Proofs.YtejecjjimggjeaaH.box_arr (cs := (data.map (Value.int .u8)).toArray) rfl (t := 76) rfl (N := 5) rfl rfl ?_; intro g5 hg5 w1 hA5 hb1; have BO1 := Aside0.mk ((hb1.block _ (zr BO.out)).trans BO.out); have BM1 := Aside0.mk (BM.out.move (hb1.block _ BM.out.lt)); have hc1 : w1.cell? ⟨gy, 1, none⟩ = some (.map (some gm)) := (zb BO1.out 1).trans rfl; have hlk := run_look64 BM1.out b; rw [← HVE.out, ← HQE.out] at hlk; have HA5 := Aside0.mk hA5; have HG5 := Aside0.mk hg5; have HB1 := Aside0.mk hb1; clear hA5 hg5 hb1) | ((with_reducible refine zt (N := 6) rfl ?_); refine Go.Proofs.YtejecjjimggjeaaH.alloc_arr rfl (t := 76) rfl (N := 6) rfl (zs := (Array.replicate 64 (.int .u8 0))) (n := 64) (by kernel_rfl) ?_; intro g6 hg6 w2 hA6 hb2 _; have HG6 := Aside0.mk hg6; have HB2 := Aside0.mk hb2; have HA6 := Aside0.mk hA6; clear hA6 hg6 hb2 hlk hc1) | (refine Go.Proofs.YtejecjjimggjeaaH.store_arr (g := g6) (cells := (v.map (Value.int .u8)).toArray) rfl (t := 76) rfl rfl rfl rfl HA6.out (by rw [arr_size HV.out]; kernel_rfl) (by rw [arr_size HV.out]; rfl) (arr_one v) ?_; intro w3 hA3 hg3; have hb2_ : Below W.heap.size W w2 := zk HB1.out HB2.out; have hb3_ : Below W.heap.size W w3 := zv hb2_ (some g6) hb2_.size hg3 (fun k_ hk_ => by injection hk_ with hk_; rw [← hk_, HG6.out]; exact HB1.out.size); have HA53 := Aside0.mk (zD ((HB2.out.block _ (zr HA5.out)).trans HA5.out) hg3 (by intro e_; injection e_ with e_; have h1_ := zr HA5.out; rw [HG6.out] at e_; omega)); have HB3 := Aside0.mk hb3_; have hcK : w3.cell? ⟨gy, 0, none⟩ = some vK := (zb ((HB3.out.block _ (zr BO.out)).trans BO.out) 0).trans rfl; have hfK := zd ((HB3.out.block _ (zr BO.out)).trans BO.out) 0; clear hA3 hg3 hb2_ hb3_))
  clear hcK hfK
  obtain ⟨v0, hg0⟩ : ∃ v0, YtejecjjimggjeaaH.aget m b = some v0 := by
   have := HQE.out
   cases hh : YtejecjjimggjeaaH.aget m b with
   | none => rw [hh] at this; cases this
   | some v0 => exact ⟨v0, rfl⟩
  have BO3 := Aside0.mk ((HB3.out.block _ (zr BO.out)).trans BO.out)
  have BM3 := Aside0.mk (BM.out.move (HB3.out.block _ BM.out.lt))
  have RK3 : Aside0 ((Kd.int .i64).R 2 w3 B (fun k => k < s ∨ W.heap.size ≤ k) vK ((YtejecjjimggjeaaH.aset m b data).map Prod.fst)) := ⟨by rw [aset_keys hg0]; exact Kd.R_mono (Kd.R_below RK.out HB3.out) (fun _ hk => .inl hk)⟩
  have KB3 := Aside0.mk (below_base HB3.out HBs.out)
  have FB3 : Aside0 (Kept W w3 (fun k => k = gy ∨ k = gm ∨ some k = vK.ownBlock)) := ⟨Kept.of_below HB3.out _⟩
  refine start_ (n := 7) (S := fun w' => w'.cell? ⟨gy, 1, none⟩ = some (.map (some gm)) ∧ w'.heap[g5]? = some (.cells (data.map (Value.int .u8)).toArray 76 (0, 0))) (ds := []) #[false, false, false, false, false, false, false] (by kernel_rfl) rfl rfl ⟨(zb (zg BO3.out) 1).trans rfl, zg HA53.out⟩ (fun hHeld => ?_)
  have BO4 := Aside0.mk (zg BO3.out); have BM4 := Aside0.mk (MapIs_drew BM3.out); have RK4 := Aside0.mk (Kd.R_drew RK3.out); have KB4 := Aside0.mk (KB3.out.drew); have FB4 := Aside0.mk (Kept.drew FB3.out); generalize w3.drew = w4 at BO4 BM4 RK4 KB4 FB4 hHeld ⊢
  refine zA (i := 0) (N := some 29) (v := ?_) (a' := ?_) #[true, false, false, false, false, false, false] rfl rfl (by kernel_rfl) (fun _ _ _ h => h) (Or.inl ⟨by rfl, ?_⟩) ?_ ?_
  rotate_left
  ·intro w'
   go_simp
   with_reducible rfl
  rotate_left
  ·simp only [Act.put, List.setIfInBounds_toArray, List.set_cons_zero, List.set_cons_succ, zp, zq]
   rfl
  refine zA (i := 1) (N := some 30) (v := ?_) (a' := ?_) #[true, true, false, false, false, false, false] rfl rfl (by kernel_rfl) (fun _ _ _ h => h) (Or.inl ⟨by rfl, ?_⟩) ?_ ?_
  rotate_left
  ·intro w'
   go_simp
   with_reducible rfl
  rotate_left
  ·simp only [Act.put, List.setIfInBounds_toArray, List.set_cons_zero, List.set_cons_succ, zp, zq]
   rfl
  refine zA (i := 2) (N := some 31) (v := ?_) (a' := ?_) #[true, true, true, false, false, false, false] rfl rfl (by kernel_rfl) (fun _ _ _ h => h) (Or.inl ⟨by rfl, ?_⟩) ?_ ?_
  rotate_left
  ·intro w'
   go_simp
   with_reducible rfl
  rotate_left
  ·simp only [Act.put, List.setIfInBounds_toArray, List.set_cons_zero, List.set_cons_succ, zp, zq]
   rfl
  refine zA (i := 4) (N := some 33) (v := ?_) (a' := ?_) #[true, true, true, false, true, false, false] rfl rfl (by kernel_rfl) (fun _ _ _ h => h) (Or.inl ⟨by rfl, ?_⟩) ?_ ?_
  rotate_left
  ·intro w'
   go_simp
   with_reducible rfl
  rotate_left
  ·simp only [Act.put, List.setIfInBounds_toArray, List.set_cons_zero, List.set_cons_succ, zp, zq]
   rfl
  refine take_ (i := 3) (N := some 32) (v := ?_) (a' := ?_) #[true, true, true, true, true, false, false] rfl rfl (by kernel_rfl) (fun _ _ _ h => h) (Or.inl ⟨by rfl, ?_⟩) hHeld ?_ ?_
  rotate_left
  ·rintro w' ⟨s0, s1⟩
   go_simp
   with_reducible rfl
  rotate_left
  ·simp only [Act.put, List.setIfInBounds_toArray, List.set_cons_zero, List.set_cons_succ, zp, zq]
   rfl
  refine take_ (i := 5) (N := some 34) (v := arrV data) (a' := ?_) #[true, true, true, true, true, true, false] rfl rfl (by kernel_rfl) (fun _ _ _ h => h) (Or.inl ⟨by rfl, ?_⟩) hHeld ?_ ?_
  ·rintro w' ⟨s0, s1⟩
   exact run_ldarr (by rfl) (by rfl) s1 HD.out
  rotate_left
  ·simp only [Act.put, List.setIfInBounds_toArray, List.set_cons_zero, List.set_cons_succ, zp, zq]
   rfl
  refine one_ (i := 6) (N := none) #[true, true, true, true, true, true, true] rfl rfl (by kernel_rfl) (by decide) (fun K hK => ?_)
  obtain ⟨w5, hup, hm5, hg5, hs5⟩ := YtejecjjimggjeaaH.run_update (YtejecjjimggjeaaH.int_key Try.underlying2) Try.underlying113 b data BM4.out
  refine skip_ (w1 := w5) (by rfl) rfl (run_exec_upd (by rfl) (by rfl) (by rfl) (by rfl) hup) ?_
  have BO5 := Aside0.mk (zD BO4.out hg5 (ne_map BO4.out BM4.out))
  refine hK.out _ _ ⟨(zb BO5.out 1).trans rfl, zD hHeld.2 hg5 (ne_map hHeld.2 BM4.out)⟩ (fun hHeld => ?_)
  clear hK K
  refine done_ (by kernel_rfl) ?_
  try go_wp2
  go_end0
  refine ⟨rfl, vK, BO5.out, hm5, ?_, ?_, ?_⟩
  ·exact Kd.R_mono (Kd.R_grown (Kd.R_types' RK4.out BM4.out) hg5 (fun k_ hk_ e_ => hk_.2 (by injection e_))) (fun _ hk_ => hk_.1)
  ·exact zv KB4.out (some gm) (Nat.le_trans HBs.out KB4.out.size) hg5 (fun k_ hk_ => by injection hk_ with hk_; exact hk_ ▸ HPM.out)
  ·exact Kept.of_grown hg5 FB4.out (fun k_ hk_ => by injection hk_ with hk_; exact .inl (.inr (.inl hk_.symm)))
 | false =>
  go_enter Try.func69, Try.ntmps69
  go_wp2_with (first | ((with_reducible refine zt (N := 5) rfl ?_); refine Go.Proofs.YtejecjjimggjeaaH.box_arr (cs := (data.map (Value.int .u8)).toArray) rfl (t := 76) rfl (N := 5) rfl rfl ?_; intro g5 hg5 w1 hA5 hb1; have BO1 := Aside0.mk ((hb1.block _ (zr BO.out)).trans BO.out); have BM1 := Aside0.mk (BM.out.move (hb1.block _ BM.out.lt)); have hc1 : w1.cell? ⟨gy, 1, none⟩ = some (.map (some gm)) := (zb BO1.out 1).trans rfl; have hlk := run_look64 BM1.out b; rw [← HVE.out, ← HQE.out] at hlk; have HA5 := Aside0.mk hA5; have HG5 := Aside0.mk hg5; have HB1 := Aside0.mk hb1; clear hA5 hg5 hb1) | ((with_reducible refine zt (N := 6) rfl ?_); refine Go.Proofs.YtejecjjimggjeaaH.alloc_arr rfl (t := 76) rfl (N := 6) rfl (zs := (Array.replicate 64 (.int .u8 0))) (n := 64) (by kernel_rfl) ?_; intro g6 hg6 w2 hA6 hb2 _; have HG6 := Aside0.mk hg6; have HB2 := Aside0.mk hb2; have HA6 := Aside0.mk hA6; clear hA6 hg6 hb2 hlk hc1) | (refine Go.Proofs.YtejecjjimggjeaaH.store_arr (g := g6) (cells := (v.map (Value.int .u8)).toArray) rfl (t := 76) rfl rfl rfl rfl HA6.out (by rw [arr_size HV.out]; kernel_rfl) (by rw [arr_size HV.out]; rfl) (arr_one v) ?_; intro w3 hA3 hg3; have hb2_ : Below W.heap.size W w2 := zk HB1.out HB2.out; have hb3_ : Below W.heap.size W w3 := zv hb2_ (some g6) hb2_.size hg3 (fun k_ hk_ => by injection hk_ with hk_; rw [← hk_, HG6.out]; exact HB1.out.size); have HA53 := Aside0.mk (zD ((HB2.out.block _ (zr HA5.out)).trans HA5.out) hg3 (by intro e_; injection e_ with e_; have h1_ := zr HA5.out; rw [HG6.out] at e_; omega)); have HB3 := Aside0.mk hb3_; have hcK : w3.cell? ⟨gy, 0, none⟩ = some vK := (zb ((HB3.out.block _ (zr BO.out)).trans BO.out) 0).trans rfl; have hfK := zd ((HB3.out.block _ (zr BO.out)).trans BO.out) 0; clear hA3 hg3 hb2_ hb3_) | ((with_reducible refine gate_builtin (b := .append) (xs := #[.tmp 23, .tmp 25]) rfl ?_); at_builtin; refine Kd.R_append (Kd.int .i64) (w0 := W) B rfl (.tmp 23) (.tmp 25) 42 2 (.int .i64 0) 8 rfl Try.underlying42 infoI64_ rfl (by decide) (by omega) vK (m.map Prod.fst) b [.int .i64 b] (fun k => k < s ∨ W.heap.size ≤ k) (fun _ => False) rfl rfl ?aP (fun _ hk => hk.elim) ?aF ?aO ?aB ?aS ?aL ?_; (case aP => exact rfl); (case aB => exact below_base HB3.out HBs.out); (case aF => exact (fun k_ hk => .inr (Nat.le_trans HB3.out.size hk))); (case aO => exact (Kd.R_mono (Kd.R_below RK.out HB3.out) (fun _ hk => .inl hk))); (case aS => exact Nat.le_trans HBs.out HB3.out.size); (case aL => have := HL.out; simp; omega); intro vK1 w7 ho hb7 hg7 hat7; obtain ⟨ks1, hks1⟩ : ∃ k_, k_ = m.map Prod.fst ++ [b] := ⟨_, rfl⟩; rw [← hks1] at ho; have HKS := Aside0.mk hks1; clear hks1; obtain ⟨A7, c7, e7⟩ := Kd.R_slice ho; subst e7; have hne_ : some gy ≠ vK.ownBlock := (Kd.R_ne (Kd.R_below RK.out HB3.out) ((HB3.out.block _ (zr BO.out)).trans BO.out) (by decide)); have hbo7 := zD ((HB3.out.block _ (zr BO.out)).trans BO.out) hg7 hne_; have hcK7 : w7.cell? ⟨gy, 0, none⟩ = some vK := (zb hbo7 0).trans rfl; have hfK7 := zd hbo7 0; have zG := Aside0.mk ho; have BO7 := Aside0.mk hbo7; have HG7 := Aside0.mk hg7; have HB7 := Aside0.mk hb7; have HAT7 := Aside0.mk hat7; (try clear ho hb7 hg7 hat7); (try clear hne_); (try clear hbo7); (try clear hcK); (try clear hfK)))
  have hg0 : YtejecjjimggjeaaH.aget m b = none := by
   have := HQE.out
   cases hh : YtejecjjimggjeaaH.aget m b with
   | none => rfl
   | some v0 => rw [hh] at this; cases this
  clear hcK7 hfK7
  have KB7 := Aside0.mk (below_base HB3.out HBs.out)
  have hbm3 := BM.out.move (HB3.out.block _ BM.out.lt)
  have hgm : some gm ≠ vK.ownBlock := fun e_ => by
   obtain ⟨cells, hc⟩ := Kd.R_typed (Kd.R_below RK.out HB3.out) gm e_.symm
   exact ne_map hc hbm3 rfl
  have hg5k : some g5 ≠ vK.ownBlock := fun e_ => by have h1_ := Kd.R_lt RK.out g5 e_.symm; rw [HG5.out] at h1_; omega
  have BO3 : Aside0 ((w7.setCell ⟨gy, 0, none⟩ (.slice A7 ks1.length c7)).heap[gy]? = some (.cells #[(.slice A7 ks1.length c7), .map (some gm)] 115 (0, 0))) := ⟨zz BO7.out 0 (.slice A7 ks1.length c7) rfl⟩
  have hm7 : w7.heap[gm]? = w3.heap[gm]? := HG7.out.block _ hbm3.lt hgm
  have hne : gm ≠ gy := fun e_ => ne_map ((HB3.out.block _ (zr BO.out)).trans BO.out) hbm3 (by rw [e_])
  have BM3 : Aside0 (YtejecjjimggjeaaH.MapIs (Value.int .i64) arrV (w7.setCell ⟨gy, 0, none⟩ (.slice A7 ks1.length c7)) gm m) := ⟨hbm3.move ((Below.heap_setCell w7 ⟨gy, 0, none⟩ (.slice A7 ks1.length c7) gm hne).trans hm7)⟩
  have RK3 : Aside0 ((Kd.int .i64).R 2 (w7.setCell ⟨gy, 0, none⟩ (.slice A7 ks1.length c7)) B (fun k => k < s ∨ W.heap.size ≤ k) (.slice A7 ks1.length c7) ((YtejecjjimggjeaaH.aset m b data).map Prod.fst)) := ⟨by rw [YtejecjjimggjeaaH.aset_new b data hg0, List.map_append, show m.map Prod.fst ++ [(b, data)].map Prod.fst = ks1 from HKS.out.symm]; exact Kd.R_set zG.out BO7.out (by decide) 0 (.slice A7 ks1.length c7)⟩
  have HA53' : Aside0 ((w7.setCell ⟨gy, 0, none⟩ (.slice A7 ks1.length c7)).heap[g5]? = some (.cells (data.map (Value.int .u8)).toArray 76 (0, 0))) := ⟨zE (zD HA53.out HG7.out hg5k) (fun e_ => by have h1_ := zr BO.out; have e2_ : g5 = gy := e_; rw [← e2_, HG5.out] at h1_; omega) (.slice A7 ks1.length c7)⟩
  have KB3 : Aside0 (Below B W (w7.setCell ⟨gy, 0, none⟩ (.slice A7 ks1.length c7))) := ⟨Below.setCell HB7.out HPO.out (.slice A7 ks1.length c7)⟩
  have FB3 : Aside0 (Kept W (w7.setCell ⟨gy, 0, none⟩ (.slice A7 ks1.length c7)) (fun k => k = gy ∨ k = gm ∨ some k = vK.ownBlock)) := ⟨Kept.setCell (Kept.of_grown HG7.out (Kept.of_below HB3.out _) (fun k_ hk_ => .inl (.inr (.inr hk_.symm)))) (.inl (.inl rfl)) (.slice A7 ks1.length c7)⟩
  clear HA53 hbm3 hm7
  have HA53 := HA53'
  clear HA53'
  refine start_ (n := 7) (S := fun w' => w'.cell? ⟨gy, 1, none⟩ = some (.map (some gm)) ∧ w'.heap[g5]? = some (.cells (data.map (Value.int .u8)).toArray 76 (0, 0))) (ds := []) #[false, false, false, false, false, false, false] (by kernel_rfl) rfl rfl ⟨(zb (zg BO3.out) 1).trans rfl, zg HA53.out⟩ (fun hHeld => ?_)
  have BO4 := Aside0.mk (zg BO3.out); have BM4 := Aside0.mk (MapIs_drew BM3.out); have RK4 := Aside0.mk (Kd.R_drew RK3.out); have KB4 := Aside0.mk (KB3.out.drew); have FB4 := Aside0.mk (Kept.drew FB3.out); generalize (w7.setCell ⟨gy, 0, none⟩ (.slice A7 ks1.length c7)).drew = w4 at BO4 BM4 RK4 KB4 FB4 hHeld ⊢
  refine zA (i := 0) (N := some 29) (v := ?_) (a' := ?_) #[true, false, false, false, false, false, false] rfl rfl (by kernel_rfl) (fun _ _ _ h => h) (Or.inl ⟨by rfl, ?_⟩) ?_ ?_
  rotate_left
  ·intro w'
   go_simp
   with_reducible rfl
  rotate_left
  ·simp only [Act.put, List.setIfInBounds_toArray, List.set_cons_zero, List.set_cons_succ, zp, zq]
   rfl
  refine zA (i := 1) (N := some 30) (v := ?_) (a' := ?_) #[true, true, false, false, false, false, false] rfl rfl (by kernel_rfl) (fun _ _ _ h => h) (Or.inl ⟨by rfl, ?_⟩) ?_ ?_
  rotate_left
  ·intro w'
   go_simp
   with_reducible rfl
  rotate_left
  ·simp only [Act.put, List.setIfInBounds_toArray, List.set_cons_zero, List.set_cons_succ, zp, zq]
   rfl
  refine zA (i := 2) (N := some 31) (v := ?_) (a' := ?_) #[true, true, true, false, false, false, false] rfl rfl (by kernel_rfl) (fun _ _ _ h => h) (Or.inl ⟨by rfl, ?_⟩) ?_ ?_
  rotate_left
  ·intro w'
   go_simp
   with_reducible rfl
  rotate_left
  ·simp only [Act.put, List.setIfInBounds_toArray, List.set_cons_zero, List.set_cons_succ, zp, zq]
   rfl
  refine zA (i := 4) (N := some 33) (v := ?_) (a' := ?_) #[true, true, true, false, true, false, false] rfl rfl (by kernel_rfl) (fun _ _ _ h => h) (Or.inl ⟨by rfl, ?_⟩) ?_ ?_
  rotate_left
  ·intro w'
   go_simp
   with_reducible rfl
  rotate_left
  ·simp only [Act.put, List.setIfInBounds_toArray, List.set_cons_zero, List.set_cons_succ, zp, zq]
   rfl
  refine take_ (i := 3) (N := some 32) (v := ?_) (a' := ?_) #[true, true, true, true, true, false, false] rfl rfl (by kernel_rfl) (fun _ _ _ h => h) (Or.inl ⟨by rfl, ?_⟩) hHeld ?_ ?_
  rotate_left
  ·rintro w' ⟨s0, s1⟩
   go_simp
   with_reducible rfl
  rotate_left
  ·simp only [Act.put, List.setIfInBounds_toArray, List.set_cons_zero, List.set_cons_succ, zp, zq]
   rfl
  refine take_ (i := 5) (N := some 34) (v := arrV data) (a' := ?_) #[true, true, true, true, true, true, false] rfl rfl (by kernel_rfl) (fun _ _ _ h => h) (Or.inl ⟨by rfl, ?_⟩) hHeld ?_ ?_
  ·rintro w' ⟨s0, s1⟩
   exact run_ldarr (by rfl) (by rfl) s1 HD.out
  rotate_left
  ·simp only [Act.put, List.setIfInBounds_toArray, List.set_cons_zero, List.set_cons_succ, zp, zq]
   rfl
  refine one_ (i := 6) (N := none) #[true, true, true, true, true, true, true] rfl rfl (by kernel_rfl) (by decide) (fun K hK => ?_)
  obtain ⟨w5, hup, hm5, hg5, hs5⟩ := YtejecjjimggjeaaH.run_update (YtejecjjimggjeaaH.int_key Try.underlying2) Try.underlying113 b data BM4.out
  refine skip_ (w1 := w5) (by rfl) rfl (run_exec_upd (by rfl) (by rfl) (by rfl) (by rfl) hup) ?_
  have BO5 := Aside0.mk (zD BO4.out hg5 (ne_map BO4.out BM4.out))
  refine hK.out _ _ ⟨(zb BO5.out 1).trans rfl, zD hHeld.2 hg5 (ne_map hHeld.2 BM4.out)⟩ (fun hHeld => ?_)
  clear hK K
  refine done_ (by kernel_rfl) ?_
  try go_wp2
  go_end0
  refine ⟨rfl, (.slice A7 ks1.length c7), BO5.out, hm5, ?_, ?_, ?_⟩
  ·exact Kd.R_mono (Kd.R_grown (Kd.R_types' RK4.out BM4.out) hg5 (fun k_ hk_ e_ => hk_.2 (by injection e_))) (fun _ hk_ => hk_.1)
  ·exact zv KB4.out (some gm) (Nat.le_trans HBs.out KB4.out.size) hg5 (fun k_ hk_ => by injection hk_ with hk_; exact hk_ ▸ HPM.out)
  ·exact Kept.of_grown hg5 FB4.out (fun k_ hk_ => by injection hk_ with hk_; exact .inl (.inr (.inl hk_.symm)))
theorem run_slice64 {o : Oper} {a : Act} {x : Operand} {w : World} {g : Nat} {l : List Int} (ho : o.op = .slice 76 x none none none) (hx : a.eval x = .pointer (some ⟨g, 0, none⟩)) (hl : l.length = 64) :
  (execOp a.eval o).run Try.prog w = .ok (.value (.slice (some ⟨g, 0, none⟩) l.length l.length)) w := by
 obtain ⟨i, hi, hz⟩ := Option.map_eq_some_iff.1 (show (Try.prog.info? 5).map (·.size) = some 1 by kernel_rfl)
 unfold execOp
 simp [ho, hx, Instr.sliceAt, Instr.sureAddr, run_underlying Try.underlying76, Instr.sliceBounds, sizeOf, typeInfo, hi, Addr.add, hl]
theorem read_arr {w : World} {g T : Nat} {l : List Int} (h : w.heap[g]? = some (.cells (l.map (Value.int .u8)).toArray T (0, 0))) (hl : l.length = 64) : (Kd.int .u8).C w (some ⟨g, 0, none⟩) l.length l :=
 (Kd.R_reads' (YtejecjjimggjeaaH.R_of_arr (Value.int .u8) (fun _ => rfl) (base := 0) (ok := fun _ => True) h (Nat.zero_le _) trivial (by omega) (by omega))).2.2
theorem clone64 {l : List Int} (hl : l.length = 64) : slices_Clone_byte_byte.f l = some l := by
 simp only [slices_Clone_byte_byte.f, Option.bind_some, List.nil_append, List.length_nil]
 rw [if_pos (by omega)]
theorem Plat.drew {W : World} {B s gp : Nat} {dur : List Int} {pend : List S45} {m : List (Int × List Int)} {gy gm : Nat} {vD vP vK : Value} (h : Plat W B s gp dur pend m gy gm vD vP vK) : Plat W.drew B s gp dur pend m gy gm vD vP vK := h.move (fun _ _ _ => rfl) (Nat.le_refl _)
theorem Kd.R_keptSet {α : Type} {d : Kd α} {e B gy gm : Nat} {W w' : World} {ok : Nat → Prop} {v vK : Value} {xs : List α} {m : List (Int × List Int)} {cs : Array Value} {ks : List Int} {okK : Nat → Prop} (h : d.R e W B ok v xs) (hm : YtejecjjimggjeaaH.MapIs (Value.int .i64) arrV W gm m)
  (ho : W.heap[gy]? = some (.cells cs 115 (0, 0))) (rk : (Kd.int .i64).R 2 W B okK vK ks) (ht : ∀ q, q ∈ e :: d.E → q ≠ 115 ∧ q ≠ 2) (hk : Kept W w' (fun k => k = gy ∨ k = gm ∨ some k = vK.ownBlock)) : d.R e w' B ok v xs := by
 refine Kd.R_mono (Kd.R_move (Kd.R_bound h) (fun k hb => ?_)) (fun _ hb => hb.1)
 obtain ⟨_, _, hlt, q, hq, cells, hc⟩ := hb
 refine hk.2 k hlt ?_
 rintro (rfl | rfl | h3)
 ·rw [hc] at ho
  have : q = 115 := by injection ho with ho; injection ho
  exact (ht q hq).1 this
 ·exact ne_map hc hm rfl
 ·obtain ⟨c2, hc2⟩ := Kd.R_typed rk k h3.symm
  rw [hc] at hc2
  have : q = 2 := by injection hc2 with hc2; injection hc2
  exact (ht q hq).2 this
theorem Plat.afterSet {W w' : World} {B s gp : Nat} {dur : List Int} {pend : List S45} {m : List (Int × List Int)} {gy gm : Nat} {vD vP vK vK' : Value} {b : Int} {data : List Int} (h : Plat W B s gp dur pend m gy gm vD vP vK) (hs : s ≤ W.heap.size) (hd : data.length = 64)
  (bo : w'.heap[gy]? = some (.cells #[vK', .map (some gm)] 115 (0, 0))) (bm : YtejecjjimggjeaaH.MapIs (Value.int .i64) arrV w' gm (YtejecjjimggjeaaH.aset m b data)) (rk : (Kd.int .i64).R 2 w' B (fun k => k < s ∨ W.heap.size ≤ k) vK' ((YtejecjjimggjeaaH.aset m b data).map Prod.fst))
  (hk : Kept W w' (fun k => k = gy ∨ k = gm ∨ some k = vK.ownBlock)) : Plat w' B w'.heap.size gp dur pend (YtejecjjimggjeaaH.aset m b data) gy gm vD vP vK' where
 bp := (hk.2 gp (zr h.bp) (by
  rintro (e | e | e)
  ·have h1 := h.bp
   rw [e, h.bo] at h1
   injection h1 with h1; injection h1 with _ h1; exact absurd h1 (by decide)
  ·exact ne_map h.bp h.bm (by rw [e])
  ·obtain ⟨c2, hc2⟩ := Kd.R_typed h.rk gp e.symm
   rw [h.bp] at hc2
   injection hc2 with hc2; injection hc2 with _ hc2; exact absurd hc2 (by decide))).trans h.bp
 bo := bo
 bm := bm
 rd := Kd.R_mono (Kd.R_keptSet h.rd h.bm h.bo h.rk (by decide) hk) (fun k hk_ => by have := hk.1; omega)
 rp := Kd.R_mono (Kd.R_keptSet h.rp h.bm h.bo h.rk (by decide) hk) (fun k hk_ => ⟨by have := hk.1; have := hk_.1; omega, hk_.2⟩)
 rk := Kd.R_mono (Kd.R_bound rk) (fun k hk_ => hk_.2.2.1)
 pp := ⟨h.pp.1, by have := hk.1; have := h.pp.2; omega⟩
 po := ⟨h.po.1, by have := hk.1; have := h.po.2; omega⟩
 pm := ⟨h.pm.1, by have := hk.1; have := h.pm.2; omega⟩
 m64 := aset_64 h.m64 b hd
theorem keptSet_to {W w' : World} {B s gp : Nat} {dur : List Int} {pend : List S45} {m : List (Int × List Int)} {gy gm : Nat} {vD vP vK : Value} (h : Plat W B s gp dur pend m gy gm vD vP vK) (hk : Kept W w' (fun k => k = gy ∨ k = gm ∨ some k = vK.ownBlock)) : Kept W w' (fun k => B ≤ k ∧ k < s) :=
 hk.mono (by
  rintro k (rfl | rfl | e)
  ·exact h.po
  ·exact h.pm
  ·exact ⟨Kd.R_base h.rk k e.symm, h.rk.1 k e.symm⟩)
theorem infoWr_ : (Try.prog.info? 45).map (fun i => (i.zero, i.size, i.bytes)) = some (some (.agg #[(.int .i64 0), (.slice none 0 0)]), 2, 32) := by kernel_rfl
set_option maxHeartbeats 4000000 in
set_option maxRecDepth 100000 in
theorem write_c (W : World) (B s gp : Nat) (dur : List Int) (pend : List S45) (m : List (Int × List Int)) (gy gm : Nat) (vD vP vK : Value) (b : Int) (data : List Int) (hd : data.length = 64) (hP : Plat W B s gp dur pend m gy gm vD vP vK) (hB : B ≤ W.heap.size) (hs : s ≤ W.heap.size) (hl : m.length ≤ 1000000) (hl2 : pend.length ≤ 1000000) :
  Calls Try.prog 42 #[.pointer (some ⟨gp, 0, none⟩), .int .i64 b, arrV data] W fun e w' => e = .returned (.tuple #[]) ∧ ∃ vP' vK', Plat w' B w'.heap.size gp dur (pend ++ [⟨b, data⟩]) (YtejecjjimggjeaaH.aset m b data) gy gm vD vP' vK' ∧ Below B W w' ∧ Kept W w' (fun k => B ≤ k ∧ k < s) := by
 have HD := Aside0.mk hd
 have HP := Aside0.mk hP
 have HBs := Aside0.mk hB
 have HSs := Aside0.mk hs
 have HL := Aside0.mk hl
 have HL2 := Aside0.mk hl2
 clear hd hP hB hs hl hl2
 go_enter Try.func42, Try.ntmps42
 go_wp2_with (first | ((with_reducible refine zt (N := 5) rfl ?_); refine Go.Proofs.YtejecjjimggjeaaH.box_arr (cs := (data.map (Value.int .u8)).toArray) rfl (t := 76) rfl (N := 5) rfl rfl ?_; intro g5 hg5 w1 hA5 hb1; have HP1 := Aside0.mk (HP.out.below HSs.out hb1); have HA5 := Aside0.mk hA5; have HG5 := Aside0.mk hg5; have HB1 := Aside0.mk hb1; clear hA5 hg5 hb1))
 refine start_ (n := 7) (S := fun w' => w'.cell? ⟨gp, 2, none⟩ = some (.pointer (some ⟨gy, 0, none⟩)) ∧ w'.heap[g5]? = some (.cells (data.map (Value.int .u8)).toArray 76 (0, 0))) (ds := []) #[false, false, false, false, false, false, false] (by kernel_rfl) rfl rfl ⟨(zb HP1.out.drew.bp 2).trans rfl, zg HA5.out⟩ (fun hHeld => ?_)
 have HP2 := Aside0.mk HP1.out.drew; have HA52 := Aside0.mk (zg HA5.out); have KB2 := Aside0.mk (below_drew HB1.out); generalize w1.drew = w2 at HP2 HA52 KB2 hHeld ⊢
 refine zA (i := 0) (N := some 6) (v := ?_) (a' := ?_) #[true, false, false, false, false, false, false] rfl rfl (by kernel_rfl) (fun _ _ _ h => h) (Or.inl ⟨by rfl, ?_⟩) ?_ ?_
 rotate_left
 ·intro w'
  go_simp
  with_reducible rfl
 rotate_left
 ·simp only [Act.put, List.setIfInBounds_toArray, List.set_cons_zero, List.set_cons_succ, zp, zq]
  rfl
 refine zA (i := 1) (N := some 7) (v := ?_) (a' := ?_) #[true, true, false, false, false, false, false] rfl rfl (by kernel_rfl) (fun _ _ _ h => h) (Or.inl ⟨by rfl, ?_⟩) ?_ ?_
 rotate_left
 ·intro w'
  go_simp
  with_reducible rfl
 rotate_left
 ·simp only [Act.put, List.setIfInBounds_toArray, List.set_cons_zero, List.set_cons_succ, zp, zq]
  rfl
 refine zA (i := 2) (N := some 8) (v := ?_) (a' := ?_) #[true, true, true, false, false, false, false] rfl rfl (by kernel_rfl) (fun _ _ _ h => h) (Or.inl ⟨by rfl, ?_⟩) ?_ ?_
 rotate_left
 ·intro w'
  go_simp
  with_reducible rfl
 rotate_left
 ·simp only [Act.put, List.setIfInBounds_toArray, List.set_cons_zero, List.set_cons_succ, zp, zq]
  rfl
 refine zA (i := 4) (N := some 10) (v := ?_) (a' := ?_) #[true, true, true, false, true, false, false] rfl rfl (by kernel_rfl) (fun _ _ _ h => h) (Or.inl ⟨by rfl, ?_⟩) ?_ ?_
 rotate_left
 ·intro w'
  go_simp
  with_reducible rfl
 rotate_left
 ·simp only [Act.put, List.setIfInBounds_toArray, List.set_cons_zero, List.set_cons_succ, zp, zq]
  rfl
 refine take_ (i := 3) (N := some 9) (v := ?_) (a' := ?_) #[true, true, true, true, true, false, false] rfl rfl (by kernel_rfl) (fun _ _ _ h => h) (Or.inl ⟨by rfl, ?_⟩) hHeld ?_ ?_
 rotate_left
 ·rintro w' ⟨s0, s1⟩
  go_simp
  with_reducible rfl
 rotate_left
 ·simp only [Act.put, List.setIfInBounds_toArray, List.set_cons_zero, List.set_cons_succ, zp, zq]
  rfl
 refine take_ (i := 5) (N := some 11) (v := arrV data) (a' := ?_) #[true, true, true, true, true, true, false] rfl rfl (by kernel_rfl) (fun _ _ _ h => h) (Or.inl ⟨by rfl, ?_⟩) hHeld ?_ ?_
 ·rintro w' ⟨s0, s1⟩
  exact run_ldarr (by rfl) (by rfl) s1 HD.out
 rotate_left
 ·simp only [Act.put, List.setIfInBounds_toArray, List.set_cons_zero, List.set_cons_succ, zp, zq]
  rfl
 refine one_ (i := 6) (N := some 12) #[true, true, true, true, true, true, true] rfl rfl (by kernel_rfl) (by decide) (fun K hK => ?_)
 refine goes_ Try.func69 (by kernel_rfl) rfl #[.pointer (some ⟨gy, 0, none⟩), .int .i64 b, arrV data] (by rfl) rfl rfl (by (try simp only [List.map_toArray, List.map_cons, List.map_nil]); first | done | rfl) ?_
 refine (set_c w2 B s gy gm vK m b data HD.out HP2.out.bo HP2.out.bm HP2.out.m64 HP2.out.rk HP2.out.po.1 HP2.out.pm.1 (Nat.le_trans HBs.out KB2.out.size) (Nat.le_trans HSs.out KB2.out.size) HL.out).mono ?_
 rintro e w3 ⟨rfl, vK3, bo3, bm3, rk3, hb3, hk3⟩
 refine ⟨_, rfl, ?_⟩
 have HP3 := Aside0.mk (HP2.out.afterSet (Nat.le_trans HSs.out KB2.out.size) HD.out bo3 bm3 rk3 hk3)
 have hn5 : s ≤ g5 := by rw [HG5.out]; exact HSs.out
 have FB3 := Aside0.mk (keptSet_to HP2.out hk3)
 have HA53 := Aside0.mk ((FB3.out.2 g5 (zr HA52.out) (fun h_ => by omega)).trans HA52.out)
 have KB3 := Aside0.mk ((below_base KB2.out HBs.out).trans hb3)
 have FK3 : Aside0 (Kept W w3 (fun k => B ≤ k ∧ k < s)) := ⟨(Kept.of_below KB2.out _).then_ FB3.out (fun _ h_ => .inl h_)⟩
 have hs3 : W.heap.size ≤ w3.heap.size := Nat.le_trans KB2.out.size FB3.out.1
 have HS3 := Aside0.mk hs3
 clear bo3 bm3 rk3 hb3 hk3 hn5 hs3
 refine hK.out _ _ ⟨(zb HP3.out.bp 2).trans rfl, HA53.out⟩ (fun hHeld => ?_)
 clear hK K
 refine norm_ (a' := ?_) ?_ ?_
 rotate_left
 ·show Act.put _ (some 12) _ = _
  simp only [Act.put, List.setIfInBounds_toArray, List.set_cons_zero, List.set_cons_succ, zp, zq]
  rfl
 refine done_ (by kernel_rfl) ?_
 try go_wp2
 refine start_ (n := 14) (S := fun w' => w'.cell? ⟨gp, 1, none⟩ = some vP) (ds := [13]) #[false, false, false, false, false, false, false, false, false, false, false, false, false, false] (by kernel_rfl) rfl rfl ((zb HP3.out.drew.bp 1).trans rfl) (fun hHeld => ?_)
 have HP4 := Aside0.mk HP3.out.drew; have HA54 := Aside0.mk (zg HA53.out); have KB4 := Aside0.mk (below_drew KB3.out); have FK4 := Aside0.mk (Kept.drew FK3.out); have hs4 : w3.heap.size ≤ w3.drew.heap.size := Nat.le_refl _; have HS4 := Aside0.mk hs4; clear hs4; generalize w3.drew = w4 at HP4 HA54 KB4 FK4 HS4 hHeld ⊢
 refine zA (i := 0) (N := some 13) (v := ?_) (a' := ?_) #[true, false, false, false, false, false, false, false, false, false, false, false, false, false] rfl rfl (by kernel_rfl) (fun _ _ _ h => h) (Or.inl ⟨by rfl, ?_⟩) ?_ ?_
 rotate_left
 ·intro w'
  go_simp
  with_reducible rfl
 rotate_left
 ·simp only [Act.put, List.setIfInBounds_toArray, List.set_cons_zero, List.set_cons_succ, zp, zq]
  rfl
 refine zA (i := 1) (N := some 14) (v := ?_) (a' := ?_) #[true, true, false, false, false, false, false, false, false, false, false, false, false, false] rfl rfl (by kernel_rfl) (fun _ _ _ h => h) (Or.inl ⟨by rfl, ?_⟩) ?_ ?_
 rotate_left
 ·intro w'
  go_simp
  with_reducible rfl
 rotate_left
 ·simp only [Act.put, List.setIfInBounds_toArray, List.set_cons_zero, List.set_cons_succ, zp, zq]
  rfl
 refine zA (i := 2) (N := some 15) (v := ?_) (a' := ?_) #[true, true, true, false, false, false, false, false, false, false, false, false, false, false] rfl rfl (by kernel_rfl) (fun _ _ _ h => h) (Or.inl ⟨by rfl, ?_⟩) ?_ ?_
 rotate_left
 ·intro w'
  go_simp
  with_reducible rfl
 rotate_left
 ·simp only [Act.put, List.setIfInBounds_toArray, List.set_cons_zero, List.set_cons_succ, zp, zq]
  rfl
 refine zA (i := 3) (N := some 16) (v := ?_) (a' := ?_) #[true, true, true, true, false, false, false, false, false, false, false, false, false, false] rfl rfl (by kernel_rfl) (fun _ _ _ h => h) (Or.inl ⟨by rfl, ?_⟩) ?_ ?_
 rotate_left
 ·intro w'
  go_simp
  with_reducible rfl
 rotate_left
 ·simp only [Act.put, List.setIfInBounds_toArray, List.set_cons_zero, List.set_cons_succ, zp, zq]
  rfl
 refine zA (i := 5) (N := some 18) (v := ?_) (a' := ?_) #[true, true, true, true, false, true, false, false, false, false, false, false, false, false] rfl rfl (by kernel_rfl) (fun _ _ _ h => h) (Or.inl ⟨by rfl, ?_⟩) ?_ ?_
 rotate_left
 ·intro w'
  go_simp
  with_reducible rfl
 rotate_left
 ·simp only [Act.put, List.setIfInBounds_toArray, List.set_cons_zero, List.set_cons_succ, zp, zq]
  rfl
 refine zA (i := 6) (N := some 19) (v := .slice (some ⟨g5, 0, none⟩) data.length data.length) (a' := ?_) #[true, true, true, true, false, true, true, false, false, false, false, false, false, false] rfl rfl (by kernel_rfl) (fun _ _ _ h => h) (Or.inl ⟨by rfl, ?_⟩) ?_ ?_
 ·intro w'
  exact run_slice64 (by rfl) (by rfl) HD.out
 rotate_left
 ·simp only [Act.put, List.setIfInBounds_toArray, List.set_cons_zero, List.set_cons_succ, zp, zq]
  rfl
 refine take_ (i := 4) (N := some 17) (v := ?_) (a' := ?_) #[true, true, true, true, true, true, true, false, false, false, false, false, false, false] rfl rfl (by kernel_rfl) (fun _ _ _ h => h) (Or.inl ⟨by rfl, ?_⟩) hHeld ?_ ?_
 rotate_left
 ·intro w' s0
  go_simp
  with_reducible rfl
 rotate_left
 ·simp only [Act.put, List.setIfInBounds_toArray, List.set_cons_zero, List.set_cons_succ, zp, zq]
  rfl
 refine one_ (i := 7) (N := some 20) #[true, true, true, true, true, true, true, true, false, false, false, false, false, false] rfl rfl (by kernel_rfl) (by decide) (fun K hK => ?_)
 refine goes_ Try.func67 (by kernel_rfl) rfl #[.slice (some ⟨g5, 0, none⟩) data.length data.length] (by rfl) rfl rfl (by (try simp only [List.map_toArray, List.map_cons, List.map_nil]); first | done | rfl) ?_
 refine (slices_Clone_byte_byte.calls (some ⟨g5, 0, none⟩) data.length data data w4 (read_arr HA54.out HD.out) (Nat.le_refl _) (clone64 HD.out)).mono ?_
 rintro e w5 ⟨v20, rfl, zH, hb5⟩
 obtain ⟨A20, c20, e20⟩ := Kd.R_slice zH
 subst e20
 refine ⟨_, rfl, ?_⟩
 have HP5 := Aside0.mk (HP4.out.below HS4.out hb5)
 have zI := Aside0.mk zH
 have HB5 := Aside0.mk hb5
 clear zH hb5
 refine hK.out _ _ ((zb HP5.out.bp 1).trans rfl) (fun hHeld => ?_)
 clear hK K
 refine norm_ (a' := ?_) ?_ ?_
 rotate_left
 ·show Act.put _ (some 20) _ = _
  simp only [Act.put, List.setIfInBounds_toArray, List.set_cons_zero, List.set_cons_succ, zp, zq]
  rfl
 refine zA (i := 8) (N := some 21) (v := ?_) (a' := ?_) #[true, true, true, true, true, true, true, true, true, false, false, false, false, false] rfl rfl (by kernel_rfl) (fun _ _ _ h => h) (Or.inl ⟨by rfl, ?_⟩) ?_ ?_
 rotate_left
 ·intro w'
  go_simp
  with_reducible rfl
 rotate_left
 ·simp only [Act.put, List.setIfInBounds_toArray, List.set_cons_zero, List.set_cons_succ, zp, zq]
  rfl
 refine one_ (i := 9) (N := some 22) #[true, true, true, true, true, true, true, true, true, true, false, false, false, false] rfl rfl (by kernel_rfl) (by decide) (fun K hK => ?_)
 refine value_ (w1 := ?_) (v := ?_) (by rfl) rfl ?_ ?_
 rotate_left 2
 ·go_simp
  constructor
  ·rfl
  ·rfl
 refine hK.out _ _ ((zb (zh HP5.out.bp _) 1).trans rfl) (fun hHeld => ?_)
 clear hK K
 refine norm_ (a' := ?_) ?_ ?_
 rotate_left
 ·show Act.put _ (some 22) _ = _
  simp only [Act.put, List.setIfInBounds_toArray, List.set_cons_zero, List.set_cons_succ, zp, zq]
  rfl
 refine one_ (i := 10) (N := some 23) #[true, true, true, true, true, true, true, true, true, true, true, false, false, false] rfl rfl (by kernel_rfl) (by decide) (fun K hK => ?_)
 refine Kd.R_append_step k45 (w0 := W) B (by rfl) (.tmp 17) (.tmp 22) 33 45 (.agg #[(.int .i64 0), (.slice none 0 0)]) 32 rfl Try.underlying33 infoWr_ rfl (by decide) (by omega) vP pend ⟨b, data⟩ [.int .i64 b, .slice A20 data.length c20] (fun k => (k < w3.heap.size ∨ w4.heap.size ≤ k) ∧ some k ≠ vD.ownBlock) (fun k => w4.heap.size ≤ k) rfl rfl ?aP ?aQ ?aF ?aO ?aB ?aS ?aL ?_
 (case aP => exact k45_mkM _ _ _ _ (Kd.R_lower (Kd.R_mono (Kd.R_bound zI.out) (fun k_ hk_ => hk_.2.1)) (Nat.le_trans HBs.out (Nat.le_trans HS3.out HS4.out))))
 (case aQ => exact (fun k_ hk_ => ⟨⟨.inr hk_, fun e_ => by have h1_ := Kd.R_lt HP4.out.rd k_ e_.symm; omega⟩, fun e_ => by have h1_ := Kd.R_lt HP4.out.rp k_ e_.symm; omega⟩))
 (case aF => exact (fun k_ hk_ => ⟨.inr (Nat.le_trans HB5.out.size hk_), fun e_ => by have h1_ := Kd.R_lt HP5.out.rd k_ e_.symm; omega⟩))
 (case aO => exact (Kd.R_mono HP5.out.rp (fun k_ hk_ => ⟨.inl hk_.1, hk_.2⟩)))
 (case aB => exact (below_then KB4.out (Nat.le_trans HBs.out (Nat.le_trans HS3.out HS4.out)) HB5.out))
 (case aS => exact Nat.le_trans HBs.out (Nat.le_trans HS3.out (Nat.le_trans HS4.out HB5.out.size)))
 (case aL => have := HL2.out; omega)
 intro vP6 w6 zG hb6 hg6 hat6
 obtain ⟨pn, hpn⟩ : ∃ p_, p_ = pend ++ [(⟨b, data⟩ : S45)] := ⟨_, rfl⟩
 rw [← hpn] at zG
 have HPN := Aside0.mk hpn
 clear hpn
 obtain ⟨A6, c6, e6⟩ := Kd.R_slice zG
 subst e6
 have hnp : some gp ≠ vP.ownBlock := Kd.R_ne HP5.out.rp HP5.out.bp (by decide)
 have BP6 := Aside0.mk (zD HP5.out.bp hg6 hnp)
 have hc6 : w6.cell? ⟨gp, 1, none⟩ = some vP := (zb BP6.out 1).trans rfl
 have hf6 := zd BP6.out 1
 have zJ := Aside0.mk zG
 have HB6 := Aside0.mk hb6
 have HG6 := Aside0.mk hg6
 clear zG hb6 hg6 hat6 hnp
 refine hK.out _ _ hc6 (fun hHeld => ?_)
 clear hK K
 refine norm_ (a' := ?_) ?_ ?_
 rotate_left
 ·show Act.put _ (some 23) _ = _
  simp only [Act.put, List.setIfInBounds_toArray, List.set_cons_zero, List.set_cons_succ, zp, zq]
  rfl
 refine zA (i := 11) (N := some 24) (v := ?_) (a' := ?_) #[true, true, true, true, true, true, true, true, true, true, true, true, false, false] rfl rfl (by kernel_rfl) (fun _ _ _ h => h) (Or.inl ⟨by rfl, ?_⟩) ?_ ?_
 rotate_left
 ·intro w'
  go_simp
  with_reducible rfl
 rotate_left
 ·simp only [Act.put, List.setIfInBounds_toArray, List.set_cons_zero, List.set_cons_succ, zp, zq]
  rfl
 refine zA (i := 12) (N := some 25) (v := ?_) (a' := ?_) #[true, true, true, true, true, true, true, true, true, true, true, true, true, false] rfl rfl (by kernel_rfl) (fun _ _ _ h => h) (Or.inl ⟨by rfl, ?_⟩) ?_ ?_
 rotate_left
 ·intro w'
  go_simp
  with_reducible rfl
 rotate_left
 ·simp only [Act.put, List.setIfInBounds_toArray, List.set_cons_zero, List.set_cons_succ, zp, zq]
  rfl
 refine last_ (i := 13) (N := none) #[true, true, true, true, true, true, true, true, true, true, true, true, true, true] rfl rfl (by kernel_rfl) (by decide) (fun K hK => ?_)
 refine skip_ (w1 := w6.setCell ⟨gp, 1, none⟩ (.slice A6 pn.length c6)) (by rfl) rfl ?_ ?_
 ·go_simp
 refine hK.out _ _ ?_
 clear hK K
 refine done_ (by kernel_rfl) ?_
 try go_wp2
 go_end0
 have hP5 := HP5.out
 have hgp : ∀ k, k ≠ gp → some k ≠ vP.ownBlock → k < w5.heap.size → (w6.setCell ⟨gp, 1, none⟩ (.slice A6 pn.length c6)).heap[k]? = w5.heap[k]? := fun k h1 h2 h3 => (Below.heap_setCell w6 ⟨gp, 1, none⟩ _ k h1).trans (HG6.out.block k h3 h2)
 have hsz : w5.heap.size ≤ (w6.setCell ⟨gp, 1, none⟩ (.slice A6 pn.length c6)).heap.size := by have := HG6.out.size; simpa using this
 have hs34 : w3.heap.size ≤ w5.heap.size := Nat.le_trans HS4.out HB5.out.size
 have typed : ∀ k q cells, w5.heap[k]? = some (.cells cells q (0, 0)) → q ≠ 97 → k ≠ gp := fun k q cells hc hq e_ => by
  rw [e_, hP5.bp] at hc; injection hc with hc; injection hc with _ hc; exact hq hc.symm
 have wrT : ∀ k q cells, w5.heap[k]? = some (.cells cells q (0, 0)) → q ≠ 45 → some k ≠ vP.ownBlock := fun k q cells hc hq e_ => by
  obtain ⟨c2, hc2⟩ := Kd.R_typed hP5.rp k e_.symm
  rw [hc] at hc2; injection hc2 with hc2; injection hc2 with _ hc2; exact hq hc2
 refine ⟨rfl, .slice A6 pn.length c6, vK3, ⟨?_, ?_, ?_, ?_, ?_, ?_, ?_, ?_, ?_, hP5.m64⟩, ?_, ?_⟩
 ·exact zz BP6.out 1 _ rfl
 ·exact (hgp _ (typed _ _ _ hP5.bo (by decide)) (wrT _ _ _ hP5.bo (by decide)) (zr hP5.bo)).trans hP5.bo
 ·exact hP5.bm.move (hgp _ (fun e_ => ne_map hP5.bp hP5.bm (by rw [e_])) (fun e_ => by obtain ⟨c2, hc2⟩ := Kd.R_typed hP5.rp gm e_.symm; exact ne_map hc2 hP5.bm rfl) hP5.bm.lt)
 ·refine Kd.R_mono (Kd.R_move (Kd.R_bound hP5.rd) (fun k hk => ?_)) (fun k hk => by have := hk.1; omega)
  obtain ⟨_, _, hlt, q, hq, cells, hc⟩ := hk
  have hq' : q = 5 := by simpa using (show q ∈ [5] from hq)
  subst hq'
  exact hgp k (typed _ _ _ hc (by decide)) (wrT _ _ _ hc (by decide)) hlt
 ·rw [← HPN.out]
  refine Kd.R_mono (Kd.R_bound (Kd.R_set zJ.out BP6.out (by decide) 1 _)) (fun k hk => ⟨?_, hk.1.2⟩)
  exact hk.2.2.1
 ·refine Kd.R_mono (Kd.R_move (Kd.R_bound hP5.rk) (fun k hk => ?_)) (fun k hk => by have := hk.1; omega)
  obtain ⟨_, _, hlt, q, hq, cells, hc⟩ := hk
  have hq' : q = 2 := by simpa using (show q ∈ [2] from hq)
  subst hq'
  exact hgp k (typed _ _ _ hc (by decide)) (wrT _ _ _ hc (by decide)) hlt
 ·exact ⟨hP5.pp.1, by have := hP5.pp.2; omega⟩
 ·exact ⟨hP5.po.1, by have := hP5.po.2; omega⟩
 ·exact ⟨hP5.pm.1, by have := hP5.pm.2; omega⟩
 ·exact Below.setCell HB6.out hP5.pp.1 _
 ·have hgpS : B ≤ gp ∧ gp < s := HP.out.pp
  have hk5 : Kept W w5 (fun k => B ≤ k ∧ k < s) := FK4.out.below HB5.out
  refine Kept.setCell (Kept.of_grown HG6.out hk5 (fun k_ hk_ => ?_)) (.inl hgpS) _
  exact .inl ⟨Kd.R_base HP.out.rp k_ hk_, (HP.out.rp.1 k_ hk_).1⟩
set_option maxHeartbeats 4000000 in
set_option maxRecDepth 100000 in
theorem place_c (W : World) (B s gp : Nat) (dur : List Int) (pend : List S45) (m : List (Int × List Int)) (gy gm : Nat) (vD vP vK : Value) (b : Nat) (hP : Plat W B s gp dur pend m gy gm vD vP vK) (hb : 64 * b + 64 ≤ dur.length) (hl : dur.length ≤ 100000000) :
  Calls Try.prog 71 #[.pointer (some ⟨gp, 0, none⟩), .int .i64 b] W fun e w' => ∃ gD cap, vD = .slice (some ⟨gD, 0, none⟩) dur.length cap ∧ dur.length ≤ cap ∧ e = .returned (.slice (some ⟨gD, 64 * b, none⟩) 64 (cap - 64 * b)) ∧ W = w' := by
 obtain ⟨gD, cap, hvD, _, _, _⟩ := Kd.R_form hP.rd (by omega)
 subst hvD
 have hcap := (Kd.R_reads' hP.rd).2.1
 have hc : W.cell? ⟨gp, 0, none⟩ = some (.slice (some ⟨gD, 0, none⟩) dur.length cap) := (zb hP.bp 0).trans rfl
 obtain ⟨i0, hi0, hz0⟩ := Option.map_eq_some_iff.1 (show (Try.prog.info? 5).map (·.size) = some 1 by kernel_rfl)
 have hcut := cut_mid (P := Try.prog) 22 5 .i64 .i64 Try.underlying22 hi0 1 hz0 (some ⟨gD, 0, none⟩) dur.length cap ((b : Int) * 64) (((b : Int) + 1) * 64) (by omega) (by omega) (by omega) hcap
 have e1 : ((b : Int) * 64).toNat = 64 * b := by omega
 have e2 : (((b : Int) + 1) * 64).toNat = 64 * b + 64 := by omega
 rw [e1, e2, if_neg (by omega), Option.map_some, Nat.mul_one, add_plain, show 64 * b + 64 - 64 * b = 64 by omega] at hcut
 have h1 : (0 : Int) ≤ (b : Int) := by omega
 have h2 : (b : Int) ≤ 100000000 := by omega
 have HCAP := Aside0.mk hcap
 clear e1 e2 hi0 hz0 hP hb hl hcap
 go_enter Try.func71, Try.ntmps71
 go_wp2
 go_ret
 exact ⟨gD, cap, rfl, HCAP.out, rfl, rfl⟩
def readP (dur : List Int) (m : List (Int × List Int)) (b : Nat) : List Int := match YtejecjjimggjeaaH.aget m b with
 | some v => v
 | none => (dur.take (64 * b + 64)).drop (64 * b)
theorem Plat.placeC {W : World} {B s gp : Nat} {dur : List Int} {pend : List S45} {m : List (Int × List Int)} {gy gm gD cap : Nat} {vP vK : Value} (h : Plat W B s gp dur pend m gy gm (.slice (some ⟨gD, 0, none⟩) dur.length cap) vP vK) {b : Nat} (hb : 64 * b + 64 ≤ dur.length) :
  (Kd.int .u8).C W (some ⟨gD, 64 * b, none⟩) ((dur.take (64 * b + 64)).drop (64 * b)).length ((dur.take (64 * b + 64)).drop (64 * b)) := by
 have hr := Kd.R_reads' h.rd
 have := Kd.C_mid hr.2.2 (lo := 64 * b) (hi := 64 * b + 64) (by omega) hb hr.2.1
 rw [if_neg (by have := hr.2.1; omega), Option.map_some, show 64 * b * (Kd.int .u8).sz = 64 * b from Nat.mul_one _, add_plain] at this
 exact this
theorem place_len {dur : List Int} {b : Nat} (hb : 64 * b + 64 ≤ dur.length) : ((dur.take (64 * b + 64)).drop (64 * b)).length = 64 := by
 rw [List.length_drop, List.length_take]; omega
set_option maxHeartbeats 4000000 in
set_option maxRecDepth 100000 in
theorem read_c (W : World) (B s gp : Nat) (dur : List Int) (pend : List S45) (m : List (Int × List Int)) (gy gm : Nat) (vD vP vK : Value) (b : Nat) (hP : Plat W B s gp dur pend m gy gm vD vP vK) (hs : s ≤ W.heap.size) (hb : 64 * b + 64 ≤ dur.length) (hl : dur.length ≤ 100000000) :
  Calls Try.prog 47 #[.pointer (some ⟨gp, 0, none⟩), .int .i64 b] W fun e w' => e = .returned (arrV (readP dur m b)) ∧ (readP dur m b).length = 64 ∧ Below W.heap.size W w' := by
 obtain ⟨v, hve⟩ : ∃ v, v = (YtejecjjimggjeaaH.aget m b).getD z64 := ⟨_, rfl⟩
 obtain ⟨q, hqe⟩ : ∃ q, q = (YtejecjjimggjeaaH.aget m b).isSome := ⟨_, rfl⟩
 have HV : Aside0 (v.length = 64) := ⟨by rw [hve]; exact aget_64 hP.m64 b⟩
 have HVE := Aside0.mk hve
 have HQE := Aside0.mk hqe
 have HP := Aside0.mk hP
 have HSs := Aside0.mk hs
 have HBd := Aside0.mk hb
 have HLd := Aside0.mk hl
 clear hve hqe hP hs hb hl
 cases q with
 | true =>
  have HR : Aside0 (readP dur m b = v) := ⟨by
   have := HQE.out
   rw [HVE.out]; unfold readP
   cases hh : YtejecjjimggjeaaH.aget m b with
   | none => rw [hh] at this; cases this
   | some v0 => rfl⟩
  go_enter Try.func47, Try.ntmps47
  go_wp2_with (first | ((with_reducible refine zt (N := 4) rfl ?_); refine Go.Proofs.YtejecjjimggjeaaH.alloc_arr rfl (t := 76) rfl (N := 4) rfl (zs := (Array.replicate 64 (.int .u8 0))) (n := 64) (by kernel_rfl) ?_; intro g4 hg4 w1 hA4 hb1 _; have HP1 := Aside0.mk (HP.out.below HSs.out hb1); have hc1 : w1.cell? ⟨gp, 2, none⟩ = some (.pointer (some ⟨gy, 0, none⟩)) := (zb HP1.out.bp 2).trans rfl; have HA4 := Aside0.mk hA4; have HG4 := Aside0.mk hg4; have HB1 := Aside0.mk hb1; clear hA4 hg4 hb1) | ((with_reducible refine zo (f := 70) rfl ?_); refine zC (some 13) rfl rfl Try.func70 (by kernel_rfl) rfl #[.pointer (some ⟨gy, 0, none⟩), .int .i64 b] rfl (by (try simp only [List.map_toArray, List.map_cons, List.map_nil]); first | done | rfl) ?_; refine (get_c w1 gy gm vK m b HP1.out.bo HP1.out.bm HP1.out.m64).mono ?_; rintro e w2 ⟨rfl, hb2⟩; rw [← HVE.out, ← HQE.out]; refine ⟨_, rfl, ?_⟩; have HP2 := Aside0.mk (HP1.out.below (Nat.le_trans HSs.out HB1.out.size) hb2); have HA42 := Aside0.mk ((hb2.block _ (zr HA4.out)).trans HA4.out); have HB2 := Aside0.mk (zk HB1.out hb2); have hlt2 : g4 < w2.heap.size := zr HA42.out; have HLT2 := Aside0.mk hlt2; clear hb2 hc1 hlt2) | ((with_reducible refine zt (N := 5) rfl ?_); refine Go.Proofs.YtejecjjimggjeaaH.alloc_arr rfl (t := 76) rfl (N := 5) rfl (zs := (Array.replicate 64 (.int .u8 0))) (n := 64) (by kernel_rfl) ?_; intro g5 hg5 w3 hA5 hb3 _; have HP3 := Aside0.mk (HP2.out.below (Nat.le_trans HSs.out HB2.out.size) hb3); have HA43 := Aside0.mk ((hb3.block _ (zr HA42.out)).trans HA42.out); have HB3 := Aside0.mk (zk HB2.out hb3); have HA5 := Aside0.mk hA5; have hne45 : some g4 ≠ some g5 := (by intro e_; injection e_ with e_; have h1_ := HLT2.out; omega); have HNE := Aside0.mk hne45; have hge5 : W.heap.size ≤ g5 := (by rw [hg5]; exact HB2.out.size); have HGE5 := Aside0.mk hge5; clear hA5 hb3 hne45 hge5 hg5) | (refine Go.Proofs.YtejecjjimggjeaaH.store_arr (g := g5) (cells := (v.map (Value.int .u8)).toArray) rfl (t := 76) rfl rfl rfl rfl HA5.out (by rw [arr_size HV.out]; kernel_rfl) (by rw [arr_size HV.out]; rfl) (arr_one v) ?_; intro w4 hA54 hg4_; have HA54 := Aside0.mk hA54; have HA44 := Aside0.mk (zD HA43.out hg4_ HNE.out); have HP4 := Aside0.mk (HP3.out.move (fun k_ _ h2_ => hg4_.block k_ (Nat.lt_of_lt_of_le h2_ (Nat.le_trans HSs.out HB3.out.size)) (by intro e_; injection e_ with e_; have := HGE5.out; have := HSs.out; omega)) (Nat.le_refl _)); have HB4 := Aside0.mk (zv HB3.out (some g5) HB3.out.size hg4_ (fun k_ hk_ => by injection hk_ with hk_; exact hk_ ▸ HGE5.out)); clear hA54 hg4_) | ((with_reducible refine zt (N := 17) rfl ?_); refine Go.Proofs.YtejecjjimggjeaaH.load_arr (Value.int .u8) (h1 := fun _ => rfl) rfl (t := 76) (e := 5) (n := 64) (A := some ⟨g5, 0, none⟩) (xs := v) rfl (N := 17) rfl rfl Try.underlying76 (by kernel_rfl) (by omega) HV.out.symm (read_arr HA54.out HV.out) ?_) | (refine Go.Proofs.YtejecjjimggjeaaH.store_arr (g := g4) (cells := (v.map (Value.int .u8)).toArray) rfl (t := 76) rfl rfl rfl rfl HA44.out (by rw [arr_size HV.out]; kernel_rfl) (by rw [arr_size HV.out]; rfl) (arr_one v) ?_; intro w6 hA6 hg6; have HA6 := Aside0.mk hA6; have HG6 := Aside0.mk hg6; clear hA6 hg6))
  refine bodyPost_ret (results_cell_row rfl _ _ g4 76 _ (0, 0) _ rfl HA6.out Try.underlying76 rfl (by rw [arr_size HV.out]; kernel_rfl)) rfl ?_
  exact ⟨by rw [HR.out]; rfl, by rw [HR.out]; exact HV.out, zv HB4.out (some g4) HB4.out.size HG6.out (fun k_ hk_ => by injection hk_ with hk_; rw [← hk_, HG4.out]; exact Nat.le_refl _)⟩
 | false =>
  have HR : Aside0 (readP dur m b = (dur.take (64 * b + 64)).drop (64 * b)) := ⟨by
   have := HQE.out
   unfold readP
   cases hh : YtejecjjimggjeaaH.aget m b with
   | none => rfl
   | some v0 => rw [hh] at this; cases this⟩
  go_enter Try.func47, Try.ntmps47
  go_wp2_with (first | ((with_reducible refine zt (N := 4) rfl ?_); refine Go.Proofs.YtejecjjimggjeaaH.alloc_arr rfl (t := 76) rfl (N := 4) rfl (zs := (Array.replicate 64 (.int .u8 0))) (n := 64) (by kernel_rfl) ?_; intro g4 hg4 w1 hA4 hb1 _; have HP1 := Aside0.mk (HP.out.below HSs.out hb1); have hc1 : w1.cell? ⟨gp, 2, none⟩ = some (.pointer (some ⟨gy, 0, none⟩)) := (zb HP1.out.bp 2).trans rfl; have HA4 := Aside0.mk hA4; have HG4 := Aside0.mk hg4; have HB1 := Aside0.mk hb1; clear hA4 hg4 hb1) | ((with_reducible refine zo (f := 70) rfl ?_); refine zC (some 13) rfl rfl Try.func70 (by kernel_rfl) rfl #[.pointer (some ⟨gy, 0, none⟩), .int .i64 b] rfl (by (try simp only [List.map_toArray, List.map_cons, List.map_nil]); first | done | rfl) ?_; refine (get_c w1 gy gm vK m b HP1.out.bo HP1.out.bm HP1.out.m64).mono ?_; rintro e w2 ⟨rfl, hb2⟩; rw [← HVE.out, ← HQE.out]; refine ⟨_, rfl, ?_⟩; have HP2 := Aside0.mk (HP1.out.below (Nat.le_trans HSs.out HB1.out.size) hb2); have HA42 := Aside0.mk ((hb2.block _ (zr HA4.out)).trans HA4.out); have HB2 := Aside0.mk (zk HB1.out hb2); have hlt2 : g4 < w2.heap.size := zr HA42.out; have HLT2 := Aside0.mk hlt2; clear hb2 hc1 hlt2) | ((with_reducible refine zt (N := 5) rfl ?_); refine Go.Proofs.YtejecjjimggjeaaH.alloc_arr rfl (t := 76) rfl (N := 5) rfl (zs := (Array.replicate 64 (.int .u8 0))) (n := 64) (by kernel_rfl) ?_; intro g5 hg5 w3 hA5 hb3 _; have HP3 := Aside0.mk (HP2.out.below (Nat.le_trans HSs.out HB2.out.size) hb3); have HA43 := Aside0.mk ((hb3.block _ (zr HA42.out)).trans HA42.out); have HB3 := Aside0.mk (zk HB2.out hb3); have HA5 := Aside0.mk hA5; have hne45 : some g4 ≠ some g5 := (by intro e_; injection e_ with e_; have h1_ := HLT2.out; omega); have HNE := Aside0.mk hne45; have hge5 : W.heap.size ≤ g5 := (by rw [hg5]; exact HB2.out.size); have HGE5 := Aside0.mk hge5; clear hA5 hb3 hne45 hge5 hg5) | (refine Go.Proofs.YtejecjjimggjeaaH.store_arr (g := g5) (cells := (v.map (Value.int .u8)).toArray) rfl (t := 76) rfl rfl rfl rfl HA5.out (by rw [arr_size HV.out]; kernel_rfl) (by rw [arr_size HV.out]; rfl) (arr_one v) ?_; intro w4 hA54 hg4_; have HA54 := Aside0.mk hA54; have HA44 := Aside0.mk (zD HA43.out hg4_ HNE.out); have HP4 := Aside0.mk (HP3.out.move (fun k_ _ h2_ => hg4_.block k_ (Nat.lt_of_lt_of_le h2_ (Nat.le_trans HSs.out HB3.out.size)) (by intro e_; injection e_ with e_; have := HGE5.out; have := HSs.out; omega)) (Nat.le_refl _)); have HB4 := Aside0.mk (zv HB3.out (some g5) HB3.out.size hg4_ (fun k_ hk_ => by injection hk_ with hk_; exact hk_ ▸ HGE5.out)); clear hA54 hg4_) | ((with_reducible refine zo (f := 71) rfl ?_); refine zC (some 20) rfl rfl Try.func71 (by kernel_rfl) rfl #[.pointer (some ⟨gp, 0, none⟩), .int .i64 b] rfl (by (try simp only [List.map_toArray, List.map_cons, List.map_nil]); first | done | rfl) ?_; refine (place_c w4 B s gp dur pend m gy gm vD vP vK b HP4.out HBd.out HLd.out).mono ?_; rintro e w5 ⟨gD, cap, hvD, hcap, rfl, rfl⟩; refine ⟨_, rfl, ?_⟩; have HVD := Aside0.mk hvD; clear hvD hcap) | ((with_reducible refine zt (N := 21) rfl ?_); refine Go.Proofs.YtejecjjimggjeaaH.to_arr rfl (t := 76) (e := 5) (n := 64) rfl (N := 21) rfl rfl Try.underlying76 (by omega) ?_) | ((with_reducible refine zt (N := 22) rfl ?_); refine Go.Proofs.YtejecjjimggjeaaH.load_arr (Value.int .u8) (h1 := fun _ => rfl) rfl (t := 76) (e := 5) (n := 64) (A := some ⟨gD, 64 * b, none⟩) (xs := (dur.take (64 * b + 64)).drop (64 * b)) rfl (N := 22) rfl rfl Try.underlying76 (by kernel_rfl) (by omega) (place_len HBd.out).symm (Plat.placeC (HVD.out ▸ HP4.out) HBd.out) ?_) | (refine Go.Proofs.YtejecjjimggjeaaH.store_arr (g := g4) (cells := (((dur.take (64 * b + 64)).drop (64 * b)).map (Value.int .u8)).toArray) rfl (t := 76) rfl rfl rfl rfl HA44.out (by rw [arr_size (place_len HBd.out)]; kernel_rfl) (by rw [arr_size (place_len HBd.out)]; rfl) (arr_one _) ?_; intro w6 hA6 hg6; have HA6 := Aside0.mk hA6; have HG6 := Aside0.mk hg6; clear hA6 hg6))
  refine bodyPost_ret (results_cell_row rfl _ _ g4 76 _ (0, 0) _ rfl HA6.out Try.underlying76 rfl (by rw [arr_size (place_len HBd.out)]; kernel_rfl)) rfl ?_
  exact ⟨by rw [HR.out]; rfl, by rw [HR.out]; exact (place_len HBd.out), zv HB4.out (some g4) HB4.out.size HG6.out (fun k_ hk_ => by injection hk_ with hk_; rw [← hk_, HG4.out]; exact Nat.le_refl _)⟩
theorem run_toarr {o : Oper} {a : Act} {x : Operand} {w : World} {A : Option Addr} {m c : Nat} (ho : o.op = .sliceToArrayPointer 76 x) (hx : a.eval x = .slice A m c) (hm : 64 ≤ m) : (execOp a.eval o).run Try.prog w = .ok (.value (.pointer A)) w := by
 unfold execOp
 simp [ho, hx, Instr.arrayAt, run_underlying Try.underlying76, show ¬ m < 64 by omega]
theorem run_ldC {o : Oper} {a : Act} {x : Operand} {W : World} {A : Option Addr} {xs : List Int} (ho : o.op = .load 76 x) (hx : a.eval x = .pointer A) (hl : xs.length = 64) (hr : (Kd.int .u8).C W A xs.length xs) : (execOp a.eval o).run Try.prog W = .ok (.value (arrV xs)) W := by
 obtain ⟨_, _, hr3⟩ := hr
 obtain ⟨ad, rfl, hr4⟩ := hr3 (by omega)
 have hl2 : (loadCells ad (xs.map (Value.int .u8)).length).run Try.prog W = .ok (xs.map (Value.int .u8)).toArray W := by
  refine run_loadCells_list (P := Try.prog) W ad _ (fun j v hv => ?_)
  rw [List.getElem?_map] at hv
  obtain ⟨y, hy, rfl⟩ := Option.map_eq_some_iff.mp hv
  obtain ⟨c, _, hc, hcc⟩ := hr4 j y hy
  have hc' : c = [Value.int .u8 y] := hc
  subst hc'
  have := hcc 0 (Value.int .u8 y) rfl
  simpa [Kd.int, Kd.scalar] using this
 obtain ⟨i, hi, hz⟩ := Option.map_eq_some_iff.1 (show (Try.prog.info? 76).map (·.size) = some 64 by kernel_rfl)
 have hagg : (isAgg 76).run Try.prog W = .ok true W := by
  unfold isAgg
  simp [run_underlying Try.underlying76]
 rw [List.length_map, hl] at hl2
 unfold execOp
 simp [ho, hx, Instr.loadAt, Instr.sureAddr, loadVar, hagg, sizeOf, typeInfo, hi, hz, hl2, arrV]
theorem cloneAny {l : List Int} (hl : l.length ≤ 100000000) : slices_Clone_byte_byte.f l = some l := by
 simp only [slices_Clone_byte_byte.f, Option.bind_some, List.nil_append, List.length_nil]
 rw [if_pos (by omega)]
def yng (l : List S45) : List (Int × List Int) := l.foldl (fun m p => YtejecjjimggjeaaH.aset m p.f0 p.f1) []
theorem aset_len (m : List (Int × List Int)) (b : Int) (d : List Int) : (YtejecjjimggjeaaH.aset m b d).length ≤ m.length + 1 := by
 induction m with
 | nil => simp [YtejecjjimggjeaaH.aset]
 | cons q m ih =>
  obtain ⟨k, v⟩ := q
  simp only [YtejecjjimggjeaaH.aset]
  by_cases c : k = b
  ·rw [if_pos c]; simp
  ·rw [if_neg c]; simp only [List.length_cons]; omega
theorem yng_snoc (l : List S45) (p : S45) : yng (l ++ [p]) = YtejecjjimggjeaaH.aset (yng l) p.f0 p.f1 := by simp [yng]
theorem yng_len (l : List S45) : (yng l).length ≤ l.length := by
 suffices h : ∀ (l : List S45) (m : List (Int × List Int)), (l.foldl (fun m p => YtejecjjimggjeaaH.aset m p.f0 p.f1) m).length ≤ m.length + l.length by
  have := h l []; simpa [yng] using this
 intro l
 induction l with
 | nil => intro m; simp
 | cons p l ih => intro m; simp only [List.foldl_cons, List.length_cons]; have := ih (YtejecjjimggjeaaH.aset m p.f0 p.f1); have := aset_len m p.f0 p.f1; omega
theorem take_rd {l : List S45} {i : Nat} (h : i < l.length) : l.take (i + 1) = l.take i ++ [rd_T45 l (i : Int)] := by
 rw [List.take_add_one, List.getElem?_eq_getElem h]
 unfold rd_T45
 simp [h]
set_option maxHeartbeats 4000000 in
set_option maxRecDepth 100000 in
theorem spin_c (W : World) (A0 : Option Addr) (c0 : Nat) (dur : List Int) (A1 : Option Addr) (c1 : Nat) (pend : List S45) (hr0 : Kd.C (Kd.int .u8) W A0 dur.length dur) (hc0 : dur.length ≤ c0) (hr1 : Kd.C k45 W A1 pend.length pend) (hc1 : pend.length ≤ c1)
  (hv : ∀ i : Nat, i < pend.length → (rd_T45 pend (i : Int)).f1.length = 64) (hdl : dur.length ≤ 100000000) (hpl : pend.length ≤ 1000000) :
  Calls Try.prog 41 #[.agg #[.slice A0 dur.length c0, .slice A1 pend.length c1]] W fun e w' => ∃ gp gy gm vD vP vK, e = .returned (.pointer (some ⟨gp, 0, none⟩)) ∧ Plat w' W.heap.size w'.heap.size gp dur pend (yng pend) gy gm vD vP vK ∧ Below W.heap.size W w' := by
 have HR0 := Aside0.mk hr0
 have HC0 := Aside0.mk hc0
 have HR1 := Aside0.mk hr1
 have HC1 := Aside0.mk hc1
 have HV := Aside0.mk hv
 have HDL := Aside0.mk hdl
 have HPL := Aside0.mk hpl
 clear hr0 hc0 hr1 hc1 hv hdl hpl
 go_enter Try.func41, Try.ntmps41
 go_wp2_with (first | ((with_reducible refine zt (N := 1) rfl ?_); refine Go.Proofs.YtejecjjimggjeaaH.box_arr (cs := #[.slice A0 dur.length c0, .slice A1 pend.length c1]) rfl (t := 35) rfl (N := 1) rfl rfl ?_; intro g1 hg1 w1 hA1 hb1; have HA1 := Aside0.mk hA1; have HB1 := Aside0.mk hb1; have HG1 := Aside0.mk hg1; have hc10 : w1.cell? ⟨g1, 0, none⟩ = some (.slice A0 dur.length c0) := (zb HA1.out 0).trans rfl; clear hA1 hb1 hg1) | ((with_reducible refine zo (f := 67) rfl ?_); refine zC (some 8) rfl rfl Try.func67 (by kernel_rfl) rfl #[.slice A0 dur.length c0] rfl (by (try simp only [List.map_toArray, List.map_cons, List.map_nil]); first | done | rfl) ?_; refine (slices_Clone_byte_byte.calls A0 c0 dur dur w1 (Kd.C_below HR0.out HB1.out) HC0.out (cloneAny HDL.out)).mono ?_; rintro e w2 ⟨vD, rfl, zG, hb2⟩; obtain ⟨AD, cD, eD⟩ := Kd.R_slice zG; subst eD; refine ⟨_, rfl, ?_⟩; have zI := Aside0.mk zG; have HA12 := Aside0.mk ((hb2.block _ (zr HA1.out)).trans HA1.out); have HB2 := Aside0.mk (zk HB1.out hb2); have HS12 := Aside0.mk HB1.out.size; have HS2 := Aside0.mk hb2.size; clear zG hb2 hc10) | ((with_reducible refine zo (f := 68) rfl ?_); refine zC (some 9) rfl rfl Try.func68 (by kernel_rfl) rfl #[] rfl (by (try simp only [List.map_toArray, List.map_cons, List.map_nil]); first | done | rfl) ?_; refine (newOrd_c w2).mono ?_; rintro e w3 ⟨gy, gm, rfl, hgy, hgm, bo, bm, hb3⟩; refine ⟨_, rfl, ?_⟩; have zH := Aside0.mk (Kd.R_below zI.out hb3); have HA13 := Aside0.mk ((hb3.block _ (zr HA12.out)).trans HA12.out); have HB3 := Aside0.mk (zk HB2.out hb3); have BO3 := Aside0.mk bo; have BM3 := Aside0.mk bm; have HGY := Aside0.mk (Nat.le_trans HB2.out.size hgy); have HGM := Aside0.mk (Nat.le_trans HB2.out.size hgm); clear hb3 bo bm hgy hgm) | ((with_reducible refine zt (N := 11) rfl ?_); refine Go.Proofs.YtejecjjimggjeaaH.box_arr (cs := #[.slice AD dur.length cD, .slice none 0 0, .pointer (some ⟨gy, 0, none⟩)]) rfl (t := 97) rfl (N := 11) rfl rfl ?_; intro gp hgp w4 hA4 hb4; have BP4 := Aside0.mk hA4; have HGP := Aside0.mk hgp; have HB4 := Aside0.mk (zk HB3.out hb4); have HB34 := Aside0.mk hb4; have HA14 := Aside0.mk ((hb4.block _ (zr HA13.out)).trans HA13.out); have hc11 : w4.cell? ⟨g1, 1, none⟩ = some (.slice A1 pend.length c1) := (zb HA14.out 1).trans rfl; clear hA4 hb4 hgp))
 go_loopg [15] pend.length (fun kq v15 w' => ∃ (x : Int) (i : Nat) (vP vK : Value), v15 = .int .i64 x ∧ Aside0 (x = (i : Int)) ∧ Aside0 (i + kq = pend.length) ∧ Aside0 (Plat w' W.heap.size w'.heap.size gp dur (pend.take i) (yng (pend.take i)) gy gm (.slice AD dur.length cD) vP vK) ∧ Aside0 (Below W.heap.size W w'))
 case atStart =>
  have hs34 := HB34.out.size
  have hp : W.heap.size ≤ w4.heap.size := HB4.out.size
  exact ⟨0, 0, .slice none 0 0, .slice none 0 0, rfl, ⟨rfl⟩, ⟨by omega⟩, ⟨{
   bp := BP4.out
   bo := (HB34.out.block _ (zr BO3.out)).trans BO3.out
   bm := BM3.out.move (HB34.out.block _ BM3.out.lt)
   rd := Kd.R_mono (Kd.R_bound (Kd.R_lower (Kd.R_below zH.out HB34.out) HS12.out)) (fun k hk => hk.2.2.1)
   rp := Kd.R_nil _ _ _ _ _
   rk := Kd.R_nil _ _ _ _ _
   pp := ⟨by rw [HGP.out]; exact HB3.out.size, zr BP4.out⟩
   po := ⟨HGY.out, Nat.lt_of_lt_of_le (zr BO3.out) hs34⟩
   pm := ⟨HGM.out, Nat.lt_of_lt_of_le BM3.out.lt hs34⟩
   m64 := fun p hp_ => by cases hp_ }⟩, HB4⟩
 case round =>
  obtain ⟨x, i, vP, vK, rfl, HX, HK, HP, HB⟩ := hrel
  clear BP4 BO3 BM3 zH HB34 HA1 HA12 HA13 HA14 HB1 HB2 HB3 HB4 HS12 HS2 HGY HGM HGP hc11
  cases gk with
  | zero =>
   have hi : i = pend.length := by have := HK.out; omega
   subst hi
   have hx : x = (pend.length : Int) := HX.out
   clear HX
   subst hx
   have hlt : decide ((pend.length : Int) < (pend.length : Int)) = false := decide_eq_false (by omega)
   go_wp2
   go_ret
   have h1 := HP.out
   rw [List.take_length] at h1
   exact ⟨gp, gy, gm, _, _, _, rfl, h1, HB.out⟩
  | succ k2 =>
   have p0 : (0 : Int) ≤ x := by have := HX.out; omega
   have q0 : x < (pend.length : Int) := by have := HK.out; have := HX.out; omega
   have hi : i < pend.length := by have := HK.out; omega
   have hlt : decide (x < (pend.length : Int)) = true := decide_eq_true q0
   obtain ⟨ad, A, c, e1, hx0, hx1, hl1, hi1⟩ := at_T45 HR1.out x p0 q0
   cases e1
   replace hx0 := (HB.out.cell (World.block_lt_of_cell? W _ hx0)).trans hx0
   replace hx1 := (HB.out.cell (World.block_lt_of_cell? W _ hx1)).trans hx1
   have HI1 := Aside0.mk hi1
   have HL1 := Aside0.mk hl1
   have h64 : (rd_T45 pend x).f1.length = 64 := by rw [HX.out]; exact HV.out i hi
   have H64 := Aside0.mk h64
   have HIL := Aside0.mk hi
   have HT := Aside0.mk (take_rd hi)
   rw [← HX.out] at HT
   clear hi1 hl1 h64 hi
   obtain ⟨row, hrow⟩ : ∃ r_, r_ = rd_T45 pend x := ⟨_, rfl⟩
   rw [← hrow] at hx0 hx1 HI1 HL1 H64 HT
   clear hrow
   obtain ⟨rb, rl⟩ := row
   simp only at hx0 hx1 HI1 HL1 H64 HT
   replace p0 := eq_true p0
   replace q0 := eq_true q0
   go_wp2_with (first | ((with_reducible refine zt (N := 5) rfl ?_); refine Go.Proofs.YtejecjjimggjeaaH.alloc_arr rfl (t := 45) rfl (N := 5) rfl (zs := #[.int .i64 0, .slice none 0 0]) (n := 2) (by kernel_rfl) ?_; intro g5 hg5 w5 hA5 hb5 _; have HP5 := Aside0.mk (HP.out.below (Nat.le_refl _) hb5); have HB5 := Aside0.mk (zk HB.out hb5); have HA5 := Aside0.mk hA5; have HG5 := Aside0.mk hg5; have HS5 := Aside0.mk hb5.size; clear hA5 hg5 hb5) | (refine Go.Proofs.YtejecjjimggjeaaH.store_arr (g := g5) (cells := #[.int .i64 rb, .slice A rl.length c]) rfl (t := 45) rfl rfl rfl rfl HA5.out (by kernel_rfl) rfl (by kernel_rfl) ?_; intro w6 hA56 hg6_; have HA56 := Aside0.mk hA56; have HP6 := Aside0.mk (HP5.out.move (fun k_ _ h2_ => hg6_.block k_ (Nat.lt_of_lt_of_le h2_ HS5.out) (by intro e_; injection e_ with e_; have := HG5.out; omega)) (Nat.le_refl _)); have HB6 := Aside0.mk (zv HB5.out (some g5) HB5.out.size hg6_ (fun k_ hk_ => by injection hk_ with hk_; rw [← hk_, HG5.out]; exact HB.out.size)); have HS6 := Aside0.mk (Nat.le_trans HS5.out hg6_.size); clear hA56 hg6_))
   refine start_ (n := 8) (S := fun w' => w'.cell? ⟨g5, 0, none⟩ = some (.int .i64 rb) ∧ w'.cell? ⟨g5, 1, none⟩ = some (.slice A rl.length c) ∧ Kd.C (Kd.int .u8) w' A rl.length rl) (ds := []) #[false, false, false, false, false, false, false, false] (by kernel_rfl) rfl rfl ⟨(zb (zg HA56.out) 0).trans rfl, (zb (zg HA56.out) 1).trans rfl, Kd.C_below HI1.out (below_drew HB6.out)⟩ (fun hHeld => ?_)
   have HP7 := Aside0.mk HP6.out.drew; have HB7 := Aside0.mk (below_drew HB6.out); have HS7 := Aside0.mk (Nat.le_trans HS6.out (below_drew (Below.refl w6.heap.size w6)).size); have HA57 := Aside0.mk (zg HA56.out); generalize w6.drew = w7 at HP7 HB7 HS7 HA57 hHeld ⊢
   refine zA (i := 0) (N := some 19) (v := ?_) (a' := ?_) #[true, false, false, false, false, false, false, false] rfl rfl (by kernel_rfl) (fun _ _ _ h => h) (Or.inl ⟨by rfl, ?_⟩) ?_ ?_
   rotate_left
   ·intro w'
    go_simp
    with_reducible rfl
   rotate_left
   ·simp only [Act.put, List.setIfInBounds_toArray, List.set_cons_zero, List.set_cons_succ, zp, zq]
    rfl
   refine zA (i := 1) (N := some 20) (v := ?_) (a' := ?_) #[true, true, false, false, false, false, false, false] rfl rfl (by kernel_rfl) (fun _ _ _ h => h) (Or.inl ⟨by rfl, ?_⟩) ?_ ?_
   rotate_left
   ·intro w'
    go_simp
    with_reducible rfl
   rotate_left
   ·simp only [Act.put, List.setIfInBounds_toArray, List.set_cons_zero, List.set_cons_succ, zp, zq]
    rfl
   refine zA (i := 3) (N := some 22) (v := ?_) (a' := ?_) #[true, true, false, true, false, false, false, false] rfl rfl (by kernel_rfl) (fun _ _ _ h => h) (Or.inl ⟨by rfl, ?_⟩) ?_ ?_
   rotate_left
   ·intro w'
    go_simp
    with_reducible rfl
   rotate_left
   ·simp only [Act.put, List.setIfInBounds_toArray, List.set_cons_zero, List.set_cons_succ, zp, zq]
    rfl
   refine take_ (i := 2) (N := some 21) (v := ?_) (a' := ?_) #[true, true, true, true, false, false, false, false] rfl rfl (by kernel_rfl) (fun _ _ _ h => h) (Or.inl ⟨by rfl, ?_⟩) hHeld ?_ ?_
   rotate_left
   ·rintro w' ⟨s0, s1, s2⟩
    go_simp
    with_reducible rfl
   rotate_left
   ·simp only [Act.put, List.setIfInBounds_toArray, List.set_cons_zero, List.set_cons_succ, zp, zq]
    rfl
   refine take_ (i := 4) (N := some 23) (v := ?_) (a' := ?_) #[true, true, true, true, true, false, false, false] rfl rfl (by kernel_rfl) (fun _ _ _ h => h) (Or.inl ⟨by rfl, ?_⟩) hHeld ?_ ?_
   rotate_left
   ·rintro w' ⟨s0, s1, s2⟩
    go_simp
    with_reducible rfl
   rotate_left
   ·simp only [Act.put, List.setIfInBounds_toArray, List.set_cons_zero, List.set_cons_succ, zp, zq]
    rfl
   refine zA (i := 5) (N := some 24) (v := .pointer A) (a' := ?_) #[true, true, true, true, true, true, false, false] rfl rfl (by kernel_rfl) (fun _ _ _ h => h) (Or.inl ⟨by rfl, ?_⟩) ?_ ?_
   ·intro w'
    exact run_toarr (by rfl) (by rfl) (by have := H64.out; omega)
   rotate_left
   ·simp only [Act.put, List.setIfInBounds_toArray, List.set_cons_zero, List.set_cons_succ, zp, zq]
    rfl
   refine take_ (i := 6) (N := some 25) (v := arrV rl) (a' := ?_) #[true, true, true, true, true, true, true, false] rfl rfl (by kernel_rfl) (fun _ _ _ h => h) (Or.inl ⟨by rfl, ?_⟩) hHeld ?_ ?_
   ·rintro w' ⟨s0, s1, s2⟩
    exact run_ldC (by rfl) (by rfl) H64.out s2
   rotate_left
   ·simp only [Act.put, List.setIfInBounds_toArray, List.set_cons_zero, List.set_cons_succ, zp, zq]
    rfl
   refine one_ (i := 7) (N := some 26) #[true, true, true, true, true, true, true, true] rfl rfl (by kernel_rfl) (by decide) (fun K hK => ?_)
   refine goes_ Try.func42 (by kernel_rfl) rfl #[.pointer (some ⟨gp, 0, none⟩), .int .i64 rb, arrV rl] (by rfl) rfl rfl (by (try simp only [List.map_toArray, List.map_cons, List.map_nil]); first | done | rfl) ?_
   refine (write_c w7 W.heap.size _ gp dur _ _ gy gm _ vP vK rb rl H64.out HP7.out HB7.out.size HS7.out (by have h1_ := yng_len (pend.take i); have h2_ := HPL.out; rw [List.length_take] at h1_; omega) (by have h2_ := HPL.out; rw [List.length_take]; omega)).mono ?_
   rintro e w8 ⟨rfl, vP', vK', hP8, hb8, hk8⟩
   refine ⟨_, rfl, ?_⟩
   have HBN := Aside0.mk (HB7.out.trans hb8)
   have HPN := Aside0.mk hP8
   rw [show (⟨rb, rl⟩ : S45) = ⟨rb, rl⟩ from rfl, ← HT.out] at HPN
   have hyn : YtejecjjimggjeaaH.aset (yng (pend.take i)) rb rl = yng (pend.take (i + 1)) := by rw [HT.out, yng_snoc]
   rw [hyn] at HPN
   have HA58 := Aside0.mk ((hk8.2 g5 (zr HA57.out) (fun h_ => by have := HG5.out; omega)).trans HA57.out)
   clear hP8 hb8 hk8 hyn
   refine hK.out _ _ ⟨(zb HA58.out 0).trans rfl, (zb HA58.out 1).trans rfl, Kd.C_below HI1.out HBN.out⟩ (fun hHeld => ?_)
   clear hK K
   refine norm_ (a' := ?_) ?_ ?_
   rotate_left
   ·show Act.put _ (some 26) _ = _
    simp only [Act.put, List.setIfInBounds_toArray, List.set_cons_zero, List.set_cons_succ, zp, zq]
    rfl
   refine done_ (by kernel_rfl) ?_
   try go_wp2
   go_roundg k2
   case measure => omega
   case rel =>
    refine ⟨_, i + 1, vP', vK', rfl, ⟨?_⟩, ⟨by have := HK.out; omega⟩, HPN, HBN⟩
    have := HX.out
    have := HIL.out
    have := HPL.out
    unfold wrap64
    omega
set_option maxHeartbeats 4000000 in
set_option maxRecDepth 100000 in
theorem disk_c (W : World) (B s gp : Nat) (dur : List Int) (pend : List S45) (m : List (Int × List Int)) (gy gm : Nat) (vD vP vK : Value) (hP : Plat W B s gp dur pend m gy gm vD vP vK) (hs : s ≤ W.heap.size) (hdl : dur.length ≤ 100000000) (hpl : pend.length ≤ 1000000) (hv : ∀ i : Nat, i < pend.length → (rd_T45 pend (i : Int)).f1.length ≤ 100000000) :
  Calls Try.prog 43 #[.pointer (some ⟨gp, 0, none⟩)] W fun e w' => ∃ v0 v1, e = .returned (.agg #[v0, v1]) ∧ Kd.R (Kd.int .u8) 5 w' W.heap.size (fun _ => True) v0 dur ∧ Kd.S k45 45 w' W.heap.size (fun k_ => some k_ ≠ v0.ownBlock) v1 pend ∧ Below W.heap.size W w' := by
 obtain ⟨A0, c0, e0⟩ := Kd.R_slice hP.rd
 subst e0
 obtain ⟨A1, c1, e1⟩ := Kd.R_slice hP.rp
 subst e1
 have HR0 := Aside0.mk (Kd.R_reads' hP.rd).2.2
 have HC0 := Aside0.mk (Kd.R_reads' hP.rd).2.1
 have HR1 := Aside0.mk (Kd.R_reads' hP.rp).2.2
 have HBP := Aside0.mk hP.bp
 have HV := Aside0.mk hv
 have HDL := Aside0.mk hdl
 have HPL := Aside0.mk hpl
 clear hP hs hv hdl hpl
 go_enter Try.func43, Try.ntmps43
 go_wp2_with (first | ((with_reducible refine zt (N := 2) rfl ?_); refine Go.Proofs.YtejecjjimggjeaaH.alloc_arr rfl (t := 35) rfl (N := 2) rfl (zs := #[.slice none 0 0, .slice none 0 0]) (n := 2) (by kernel_rfl) ?_; intro g2 hg2 w1 hA2 hb1 _; have HA2 := Aside0.mk hA2; have HB1 := Aside0.mk hb1; have HGE2 := Aside0.mk (show W.heap.size ≤ g2 by (rw [hg2]; exact Nat.le_refl _)); have hcp0 : w1.cell? ⟨gp, 0, none⟩ = some (.slice A0 dur.length c0) := (zb ((hb1.block _ (zr HBP.out)).trans HBP.out) 0).trans rfl; clear hA2 hb1 hg2) | ((with_reducible refine zo (f := 67) rfl ?_); refine zC (some 10) rfl rfl Try.func67 (by kernel_rfl) rfl #[.slice A0 dur.length c0] rfl (by (try simp only [List.map_toArray, List.map_cons, List.map_nil]); first | done | rfl) ?_; refine (slices_Clone_byte_byte.calls A0 c0 dur dur w1 (Kd.C_below HR0.out HB1.out) HC0.out (cloneAny HDL.out)).mono ?_; rintro e w2 ⟨v_, rfl, zH, hb2⟩; obtain ⟨AD, cD, eD⟩ := Kd.R_slice zH; subst eD; refine ⟨_, rfl, ?_⟩; have HD2 := Aside0.mk (Kd.R_lower zH HB1.out.size); have HA22 := Aside0.mk ((hb2.block _ (zr HA2.out)).trans HA2.out); have HB2 := Aside0.mk (zk HB1.out hb2); have HL22 := Aside0.mk (Nat.lt_of_lt_of_le (zr HA2.out) hb2.size); clear zH hb2 hcp0) | ((with_reducible refine zt (N := 3) rfl ?_); refine Go.Proofs.YtejecjjimggjeaaH.alloc_arr rfl (t := 35) rfl (N := 3) rfl (zs := #[.slice none 0 0, .slice none 0 0]) (n := 2) (by kernel_rfl) ?_; intro g3 hg3 w3 hA3 hb3 _; have HA3 := Aside0.mk hA3; have HA23 := Aside0.mk ((hb3.block _ (zr HA22.out)).trans HA22.out); have HD3 := Aside0.mk (Kd.R_below HD2.out hb3); have HB3 := Aside0.mk (zk HB2.out hb3); have HGE3 := Aside0.mk (show W.heap.size ≤ g3 by (rw [hg3]; exact HB2.out.size)); have HNE := Aside0.mk (show g2 ≠ g3 by (have := HL22.out; omega)); clear hA3 hb3 hg3) | (refine Go.Proofs.YtejecjjimggjeaaH.store_arr (g := g3) (cells := #[.slice AD dur.length cD, .slice none 0 0]) rfl (t := 35) rfl rfl rfl rfl HA3.out (by kernel_rfl) rfl (by kernel_rfl) ?_; intro w4 hA34 hg4; have HA34 := Aside0.mk hA34; have HA24 := Aside0.mk (zD HA23.out hg4 (fun e_ => HNE.out (by injection e_))); have HD4 := Aside0.mk (Kd.R_mono (Kd.R_grown (Kd.R_types HD3.out HA3.out (by decide)) hg4 (fun k_ hk_ e_ => hk_.2 (by injection e_))) (fun _ _ => trivial)); have HB4 := Aside0.mk (zv HB3.out (some g3) HB3.out.size hg4 (fun k_ hk_ => by injection hk_ with hk_; rw [← hk_]; exact HGE3.out)); have hcp1 : w4.cell? ⟨gp, 1, none⟩ = some (.slice A1 pend.length c1) := (zb ((HB4.out.block _ (zr HBP.out)).trans HBP.out) 1).trans rfl; clear hA34 hg4))
 go_loopg [17] pend.length (fun kq v17 w' => ∃ (x : Int) (i : Nat) (vQ : Value), v17 = .int .i64 x ∧ Aside0 (x = (i : Int)) ∧ Aside0 (i + kq = pend.length) ∧ Aside0 (Kd.S k45 45 w' W.heap.size (fun k_ => some k_ ≠ (.slice AD dur.length cD : Value).ownBlock) vQ (pend.take i)) ∧ Aside0 (Kd.R (Kd.int .u8) 5 w' W.heap.size (fun _ => True) (.slice AD dur.length cD) dur) ∧ Aside0 (w'.heap[g3]? = some (.cells #[.slice AD dur.length cD, vQ] 35 (0, 0))) ∧ Aside0 (w'.heap[g2]? = some (.cells #[.slice none 0 0, .slice none 0 0] 35 (0, 0))) ∧ Aside0 (Below W.heap.size W w'))
 case atStart => exact ⟨0, 0, .slice none 0 0, rfl, ⟨rfl⟩, ⟨by omega⟩, ⟨Kd.S_nil _ _ _ _ _⟩, HD4, HA34, HA24, HB4⟩
 case round =>
  obtain ⟨x, i, vQ, rfl, HX, HK, HS, HD, HA3, HA2, HB⟩ := hrel
  clear HD4 HA34 HA24 HB4
  cases gk with
  | zero =>
   have hi : i = pend.length := by have := HK.out; omega
   subst hi
   have hx : x = (pend.length : Int) := HX.out
   clear HX
   subst hx
   have hlt : decide ((pend.length : Int) < (pend.length : Int)) = false := decide_eq_false (by omega)
   have hS := HS.out
   rw [List.take_length] at hS
   obtain ⟨AQ, cQ, eQ⟩ := Kd.S_slice hS
   subst eQ
   have HS0 := Aside0.mk hS
   clear hS HS
   have hc30 : wr.cell? ⟨g3, 0, none⟩ = some (.slice AD dur.length cD) := (zb HA3.out 0).trans rfl
   have hc31 : wr.cell? ⟨g3, 1, none⟩ = some (.slice AQ pend.length cQ) := (zb HA3.out 1).trans rfl
   go_wp2_with (refine Go.Proofs.YtejecjjimggjeaaH.store_arr (g := g2) (cells := #[.slice AD dur.length cD, .slice AQ pend.length cQ]) rfl (t := 35) rfl rfl rfl rfl HA2.out (by kernel_rfl) rfl (by kernel_rfl) ?_; intro w9 hA9 hg9; have HA9 := Aside0.mk hA9; have HG9 := Aside0.mk hg9; clear hA9 hg9)
   refine bodyPost_ret (results_cell_row rfl _ _ g2 35 _ (0, 0) _ rfl HA9.out Try.underlying35 rfl (by kernel_rfl)) rfl ?_
   refine ⟨.slice AD dur.length cD, .slice AQ pend.length cQ, rfl, Kd.R_mono (Kd.R_grown (Kd.R_types HD.out HA2.out (by decide)) HG9.out (fun k_ hk_ e_ => hk_.2 (by injection e_))) (fun _ _ => trivial), Kd.S_mono (Kd.S_grown (Kd.S_types HS0.out HA2.out (by decide)) HG9.out (fun k_ hk_ e_ => hk_.2 (by injection e_))) (fun _ hk_ => hk_.1), zv HB.out (some g2) HB.out.size HG9.out (fun k_ hk_ => by injection hk_ with hk_; rw [← hk_]; exact HGE2.out)⟩
  | succ k2 =>
   have p0 : (0 : Int) ≤ x := by have := HX.out; omega
   have q0 : x < (pend.length : Int) := by have := HK.out; have := HX.out; omega
   have hi : i < pend.length := by have := HK.out; omega
   have hlt : decide (x < (pend.length : Int)) = true := decide_eq_true q0
   obtain ⟨ad, A, c, e1, hx0, hx1, hl1, hi1⟩ := at_T45 HR1.out x p0 q0
   cases e1
   replace hx0 := (HB.out.cell (World.block_lt_of_cell? W _ hx0)).trans hx0
   replace hx1 := (HB.out.cell (World.block_lt_of_cell? W _ hx1)).trans hx1
   have HI1 := Aside0.mk hi1
   have HL1 := Aside0.mk hl1
   have h64 : (rd_T45 pend x).f1.length ≤ 100000000 := by rw [HX.out]; exact HV.out i hi
   have H64 := Aside0.mk h64
   have HIL := Aside0.mk hi
   have HT := Aside0.mk (take_rd hi)
   rw [← HX.out] at HT
   clear hi1 hl1 h64 hi
   obtain ⟨row, hrow⟩ : ∃ r_, r_ = rd_T45 pend x := ⟨_, rfl⟩
   rw [← hrow] at hx0 hx1 HI1 HL1 H64 HT
   clear hrow
   obtain ⟨rb, rl⟩ := row
   simp only at hx0 hx1 HI1 HL1 H64 HT
   replace p0 := eq_true p0
   replace q0 := eq_true q0
   go_wp2_with (first | ((with_reducible refine zt (N := 5) rfl ?_); refine Go.Proofs.YtejecjjimggjeaaH.alloc_arr rfl (t := 45) rfl (N := 5) rfl (zs := #[.int .i64 0, .slice none 0 0]) (n := 2) (by kernel_rfl) ?_; intro g5 hg5 w5 hA5 hb5 _; have HB5 := Aside0.mk (zk HB.out hb5); have HA5 := Aside0.mk hA5; have HS5 := Aside0.mk (Kd.S_elderB HS.out g5 (by (rw [hg5]; exact Nat.le_refl _))); have HS5b := Aside0.mk (Kd.S_below HS5.out hb5); have HD5 := Aside0.mk (Kd.R_below HD.out hb5); have HA35 := Aside0.mk ((hb5.block _ (zr HA3.out)).trans HA3.out); have HA25 := Aside0.mk ((hb5.block _ (zr HA2.out)).trans HA2.out); have HN35 := Aside0.mk (show g3 ≠ g5 by (have := zr HA3.out; omega)); have HN25 := Aside0.mk (show g2 ≠ g5 by (have := zr HA2.out; omega)); have HGE5 := Aside0.mk (show W.heap.size ≤ g5 by (rw [hg5]; exact HB.out.size)); clear hA5 hg5 hb5) | (refine Go.Proofs.YtejecjjimggjeaaH.store_arr (g := g5) (cells := #[.int .i64 rb, .slice A rl.length c]) rfl (t := 45) rfl rfl rfl rfl HA5.out (by kernel_rfl) rfl (by kernel_rfl) ?_; intro w6 hA56 hg6_; have HA56 := Aside0.mk hA56; have HS6 := Aside0.mk (Kd.S_mono (Kd.S_grown HS5b.out hg6_ (fun k_ hk_ e_ => hk_.2 (by injection e_))) (fun _ hk_ => hk_.1)); have HD6 := Aside0.mk (Kd.R_mono (Kd.R_grown (Kd.R_types HD5.out HA5.out (by decide)) hg6_ (fun k_ hk_ e_ => hk_.2 (by injection e_))) (fun _ _ => trivial)); have HGN5 := Aside0.mk (show some g5 ≠ vQ.ownBlock from fun e_ => ((Kd.S_R HS5.out).1 g5 e_.symm).2 rfl); have HA36 := Aside0.mk (zD HA35.out hg6_ (fun e_ => HN35.out (by injection e_))); have HA26 := Aside0.mk (zD HA25.out hg6_ (fun e_ => HN25.out (by injection e_))); have HB6 := Aside0.mk (zv HB5.out (some g5) HB5.out.size hg6_ (fun k_ hk_ => by injection hk_ with hk_; rw [← hk_]; exact HGE5.out)); clear hA56 hg6_))
   refine start_ (n := 12) (S := fun w' => w'.cell? ⟨g3, 1, none⟩ = some vQ ∧ w'.cell? ⟨g5, 0, none⟩ = some (.int .i64 rb) ∧ w'.cell? ⟨g5, 1, none⟩ = some (.slice A rl.length c)) (ds := [11]) #[false, false, false, false, false, false, false, false, false, false, false, false] (by kernel_rfl) rfl rfl ⟨(zb (zg HA36.out) 1).trans rfl, (zb (zg HA56.out) 0).trans rfl, (zb (zg HA56.out) 1).trans rfl⟩ (fun hHeld => ?_)
   have HS7 := Aside0.mk (Kd.S_drew HS6.out); have HD7 := Aside0.mk (Kd.R_drew HD6.out); have HA37 := Aside0.mk (zg HA36.out); have HA27 := Aside0.mk (zg HA26.out); have HA57 := Aside0.mk (zg HA56.out); have HB7 := Aside0.mk (below_drew HB6.out); generalize w6.drew = w7 at HS7 HD7 HA37 HA27 HA57 HB7 hHeld ⊢
   refine zA (i := 0) (N := some 21) (v := ?_) (a' := ?_) #[true, false, false, false, false, false, false, false, false, false, false, false] rfl rfl (by kernel_rfl) (fun _ _ _ h => h) (Or.inl ⟨by rfl, ?_⟩) ?_ ?_
   rotate_left
   ·intro w'
    go_simp
    with_reducible rfl
   rotate_left
   ·simp only [Act.put, List.setIfInBounds_toArray, List.set_cons_zero, List.set_cons_succ, zp, zq]
    rfl
   refine zA (i := 2) (N := some 23) (v := ?_) (a' := ?_) #[true, false, true, false, false, false, false, false, false, false, false, false] rfl rfl (by kernel_rfl) (fun _ _ _ h => h) (Or.inl ⟨by rfl, ?_⟩) ?_ ?_
   rotate_left
   ·intro w'
    go_simp
    with_reducible rfl
   rotate_left
   ·simp only [Act.put, List.setIfInBounds_toArray, List.set_cons_zero, List.set_cons_succ, zp, zq]
    rfl
   refine zA (i := 4) (N := some 25) (v := ?_) (a' := ?_) #[true, false, true, false, true, false, false, false, false, false, false, false] rfl rfl (by kernel_rfl) (fun _ _ _ h => h) (Or.inl ⟨by rfl, ?_⟩) ?_ ?_
   rotate_left
   ·intro w'
    go_simp
    with_reducible rfl
   rotate_left
   ·simp only [Act.put, List.setIfInBounds_toArray, List.set_cons_zero, List.set_cons_succ, zp, zq]
    rfl
   refine take_ (i := 1) (N := some 22) (v := ?_) (a' := ?_) #[true, true, true, false, true, false, false, false, false, false, false, false] rfl rfl (by kernel_rfl) (fun _ _ _ h => h) (Or.inl ⟨by rfl, ?_⟩) hHeld ?_ ?_
   rotate_left
   ·rintro w' ⟨s0, s1, s2⟩
    go_simp
    with_reducible rfl
   rotate_left
   ·simp only [Act.put, List.setIfInBounds_toArray, List.set_cons_zero, List.set_cons_succ, zp, zq]
    rfl
   refine take_ (i := 3) (N := some 24) (v := ?_) (a' := ?_) #[true, true, true, true, true, false, false, false, false, false, false, false] rfl rfl (by kernel_rfl) (fun _ _ _ h => h) (Or.inl ⟨by rfl, ?_⟩) hHeld ?_ ?_
   rotate_left
   ·rintro w' ⟨s0, s1, s2⟩
    go_simp
    with_reducible rfl
   rotate_left
   ·simp only [Act.put, List.setIfInBounds_toArray, List.set_cons_zero, List.set_cons_succ, zp, zq]
    rfl
   refine take_ (i := 5) (N := some 26) (v := ?_) (a' := ?_) #[true, true, true, true, true, true, false, false, false, false, false, false] rfl rfl (by kernel_rfl) (fun _ _ _ h => h) (Or.inl ⟨by rfl, ?_⟩) hHeld ?_ ?_
   rotate_left
   ·rintro w' ⟨s0, s1, s2⟩
    go_simp
    with_reducible rfl
   rotate_left
   ·simp only [Act.put, List.setIfInBounds_toArray, List.set_cons_zero, List.set_cons_succ, zp, zq]
    rfl
   refine one_ (i := 6) (N := some 27) #[true, true, true, true, true, true, true, false, false, false, false, false] rfl rfl (by kernel_rfl) (by decide) (fun K hK => ?_)
   refine goes_ Try.func67 (by kernel_rfl) rfl #[.slice A rl.length c] (by rfl) rfl rfl (by (try simp only [List.map_toArray, List.map_cons, List.map_nil]); first | done | rfl) ?_
   refine (slices_Clone_byte_byte.calls A c rl rl w7 (Kd.C_below HI1.out HB7.out) HL1.out (cloneAny H64.out)).mono ?_
   rintro e w8 ⟨v20, rfl, zI, hb8⟩
   obtain ⟨A20, c20, e20⟩ := Kd.R_slice zI
   subst e20
   refine ⟨_, rfl, ?_⟩
   have zJ := Aside0.mk zI
   have HS8 := Aside0.mk (Kd.S_old HS7.out hb8)
   have HD8 := Aside0.mk (Kd.R_old HD7.out hb8)
   have HA38 := Aside0.mk ((hb8.block _ (zr HA37.out)).trans HA37.out)
   have HA28 := Aside0.mk ((hb8.block _ (zr HA27.out)).trans HA27.out)
   have HA58 := Aside0.mk ((hb8.block _ (zr HA57.out)).trans HA57.out)
   have HB8 := Aside0.mk (zk HB7.out hb8)
   have HSZ8 := Aside0.mk hb8.size
   clear zI hb8
   refine hK.out _ _ ⟨(zb HA38.out 1).trans rfl, (zb HA58.out 0).trans rfl, (zb HA58.out 1).trans rfl⟩ (fun hHeld => ?_)
   clear hK K
   refine norm_ (a' := ?_) ?_ ?_
   rotate_left
   ·show Act.put _ (some 27) _ = _
    simp only [Act.put, List.setIfInBounds_toArray, List.set_cons_zero, List.set_cons_succ, zp, zq]
    rfl
   refine zA (i := 7) (N := some 28) (v := ?_) (a' := ?_) #[true, true, true, true, true, true, true, true, false, false, false, false] rfl rfl (by kernel_rfl) (fun _ _ _ h => h) (Or.inl ⟨by rfl, ?_⟩) ?_ ?_
   rotate_left
   ·intro w'
    go_simp
    with_reducible rfl
   rotate_left
   ·simp only [Act.put, List.setIfInBounds_toArray, List.set_cons_zero, List.set_cons_succ, zp, zq]
    rfl
   refine one_ (i := 8) (N := some 29) #[true, true, true, true, true, true, true, true, true, false, false, false] rfl rfl (by kernel_rfl) (by decide) (fun K hK => ?_)
   refine value_ (w1 := ?_) (v := ?_) (by rfl) rfl ?_ ?_
   rotate_left 2
   ·go_simp
    constructor
    ·rfl
    ·rfl
   refine hK.out _ _ ⟨(zb (zh HA38.out _) 1).trans rfl, (zb (zh HA58.out _) 0).trans rfl, (zb (zh HA58.out _) 1).trans rfl⟩ (fun hHeld => ?_)
   clear hK K
   refine norm_ (a' := ?_) ?_ ?_
   rotate_left
   ·show Act.put _ (some 29) _ = _
    simp only [Act.put, List.setIfInBounds_toArray, List.set_cons_zero, List.set_cons_succ, zp, zq]
    rfl
   refine one_ (i := 9) (N := some 30) #[true, true, true, true, true, true, true, true, true, true, false, false] rfl rfl (by kernel_rfl) (by decide) (fun K hK => ?_)
   refine Kd.S_append_step k45 (w0 := W) W.heap.size (by rfl) (.tmp 22) (.tmp 29) 33 45 (.agg #[(.int .i64 0), (.slice none 0 0)]) 32 rfl Try.underlying33 infoWr_ rfl (by decide) (by omega) vQ (pend.take i) ⟨rb, rl⟩ [.int .i64 rb, .slice A20 rl.length c20] (fun k_ => some k_ ≠ (.slice AD dur.length cD : Value).ownBlock) (fun k_ => w7.heap.size ≤ k_) rfl rfl ?aP ?aQ ?aF ?aO ?aB ?aS ?aL ?_
   (case aP => exact k45_mkM _ _ _ _ (Kd.R_lower (Kd.R_mono (Kd.R_bound zJ.out) (fun k_ hk_ => hk_.2.1)) HB7.out.size))
   (case aQ => exact (fun k_ hk_ => ⟨fun e_ => by have h1_ := (HD8.out.1 k_ e_.symm).2; omega, fun e_ => by have h1_ := Kd.S_lt HS7.out k_ e_.symm; omega⟩))
   (case aF => exact (fun k_ hk_ e_ => by have h1_ := Kd.R_lt HD8.out k_ e_.symm; omega))
   (case aO => exact (Kd.S_mono HS8.out (fun k_ hk_ => ⟨hk_.1, by have := hk_.2; omega⟩)))
   (case aB => exact HB8.out)
   (case aS => exact HB8.out.size)
   (case aL => have := HPL.out; rw [List.length_take]; omega)
   intro vP6 w9 zG hb6 hg6 hat6
   rw [← HT.out] at zG
   obtain ⟨pn, hpn⟩ : ∃ p_, p_ = pend.take (i + 1) := ⟨_, rfl⟩
   rw [← hpn] at zG
   have HPN := Aside0.mk hpn
   clear hpn
   obtain ⟨AN, cN, eN⟩ := Kd.S_slice zG
   subst eN
   have HA39 := Aside0.mk (zD HA38.out hg6 (Kd.S_ne HS8.out HA38.out (by decide)))
   have HA29 := Aside0.mk (zD HA28.out hg6 (Kd.S_ne HS8.out HA28.out (by decide)))
   have HA59 := Aside0.mk (zD HA58.out hg6 (fun e_ => by have h1_ := HGN5.out; exact h1_ e_))
   have HD9 := Aside0.mk (Kd.R_reok (ok := fun _ => True) rfl (Kd.R_grown (Kd.R_tight rfl HD8.out) hg6 (fun k_ hk_ e_ => by obtain ⟨c2_, h2_⟩ := Kd.S_typed HS8.out k_ e_.symm; obtain ⟨c3_, h3_⟩ := Kd.R_typed HD8.out k_ hk_.symm; rw [h2_] at h3_; injection h3_ with h3_; injection h3_ with _ h3_; exact absurd h3_ (by decide))) (fun _ _ => trivial))
   have hc9 : w9.cell? ⟨g3, 1, none⟩ = some vQ := (zb HA39.out 1).trans rfl
   have hf9 := zd HA39.out 1
   have HS9 := Aside0.mk zG
   have HB9 := Aside0.mk hb6
   clear zG hb6 hg6 hat6
   refine hK.out _ _ ⟨hc9, (zb HA59.out 0).trans rfl, (zb HA59.out 1).trans rfl⟩ (fun hHeld => ?_)
   clear hK K
   refine norm_ (a' := ?_) ?_ ?_
   rotate_left
   ·show Act.put _ (some 30) _ = _
    simp only [Act.put, List.setIfInBounds_toArray, List.set_cons_zero, List.set_cons_succ, zp, zq]
    rfl
   refine zA (i := 10) (N := some 31) (v := ?_) (a' := ?_) #[true, true, true, true, true, true, true, true, true, true, true, false] rfl rfl (by kernel_rfl) (fun _ _ _ h => h) (Or.inl ⟨by rfl, ?_⟩) ?_ ?_
   rotate_left
   ·intro w'
    go_simp
    with_reducible rfl
   rotate_left
   ·simp only [Act.put, List.setIfInBounds_toArray, List.set_cons_zero, List.set_cons_succ, zp, zq]
    rfl
   refine last_ (i := 11) (N := none) #[true, true, true, true, true, true, true, true, true, true, true, true] rfl rfl (by kernel_rfl) (by decide) (fun K hK => ?_)
   refine skip_ (w1 := w9.setCell ⟨g3, 1, none⟩ (.slice AN pn.length cN)) (by rfl) rfl ?_ ?_
   ·go_simp
   refine hK.out _ _ ?_
   clear hK K
   refine done_ (by kernel_rfl) ?_
   try go_wp2
   have HSN : Aside0 (Kd.S k45 45 (w9.setCell ⟨g3, 1, none⟩ (.slice AN pn.length cN)) W.heap.size (fun k_ => some k_ ≠ (.slice AD dur.length cD : Value).ownBlock) (.slice AN pn.length cN) (pend.take (i + 1))) := ⟨by rw [← HPN.out]; exact Kd.S_set HS9.out HA39.out (by decide) 1 _⟩
   have HDN : Aside0 (Kd.R (Kd.int .u8) 5 (w9.setCell ⟨g3, 1, none⟩ (.slice AN pn.length cN)) W.heap.size (fun _ => True) (.slice AD dur.length cD) dur) := ⟨Kd.R_set HD9.out HA39.out (by decide) 1 _⟩
   have HA3N : Aside0 ((w9.setCell ⟨g3, 1, none⟩ (.slice AN pn.length cN)).heap[g3]? = some (.cells #[.slice AD dur.length cD, .slice AN pn.length cN] 35 (0, 0))) := ⟨zz HA39.out 1 _ rfl⟩
   have HA2N : Aside0 ((w9.setCell ⟨g3, 1, none⟩ (.slice AN pn.length cN)).heap[g2]? = some (.cells #[.slice none 0 0, .slice none 0 0] 35 (0, 0))) := ⟨(Below.heap_setCell w9 ⟨g3, 1, none⟩ _ g2 HNE.out).trans HA29.out⟩
   have HBN : Aside0 (Below W.heap.size W (w9.setCell ⟨g3, 1, none⟩ (.slice AN pn.length cN))) := ⟨Below.setCell HB9.out HGE3.out _⟩
   go_roundg k2
   case measure => omega
   case rel =>
    refine ⟨_, i + 1, .slice AN pn.length cN, rfl, ⟨?_⟩, ⟨by have := HK.out; omega⟩, HSN, HDN, HA3N, HA2N, HBN⟩
    have := HX.out
    have := HIL.out
    have := HPL.out
    unfold wrap64
    omega
theorem pend_all {l : List S45} (h : l.all (fun p => decide (p.f1.length = 64)) = true) : ∀ i : Nat, i < l.length → (rd_T45 l (i : Int)).f1.length = 64 := by
 intro i hi
 have h1 := List.all_eq_true.mp h (l[i]) (List.getElem_mem hi)
 unfold rd_T45
 simpa [hi] using h1
theorem pend_le (l : List S45) (h : l.all (fun p => decide (p.f1.length = 64)) = true) : ∀ i : Nat, i < l.length → (rd_T45 l (i : Int)).f1.length ≤ 100000000 := fun i hi => by rw [pend_all h i hi]; omega
def impl_DiskWrite.g (l0_0 : List Int) (l0_1 : List S45) (a1 : Int) (l2 : List Int) : Option (List Int × List S45) := if l0_0.length ≤ 100000000 ∧ l0_1.length ≤ 1000000 ∧ l2.length = 64 ∧ l0_1.all (fun p => decide (p.f1.length = 64)) = true ∧ l0_1.length + 1 ≤ 1000000 then some (l0_0, l0_1 ++ [⟨a1, l2⟩]) else none
def impl_DiskWrite.f (k : Nat) (l0_0 : List Int) (l0_1 : List S45) (a1 : Int) (l2 : List Int) : Option (List Int × List S45) := (impl_ValidDisk.f k l0_0 l0_1).bind fun t => (if t = true then (if (l0_1.length : Int) = 2000 then some ([], []) else (if a1 < 0 then some ([], []) else ((impl_Disk_blocks.f l0_0 l0_1).bind fun n => (if a1 ≥ n then some ([], []) else (if (l2.length : Int) = 64 then (impl_DiskWrite.g l0_0 l0_1 a1 l2) else some ([], [])))))) else some ([], []))
theorem impl_DiskWrite.mono : ∀ l0_0 l0_1 a1 l2 k, LeO (impl_DiskWrite.f k l0_0 l0_1 a1 l2) (impl_DiskWrite.f (k + 1) l0_0 l0_1 a1 l2) := by
 intro l0_0 l0_1 a1 l2 k
 unfold impl_DiskWrite.f
 exact LeO.bind (impl_ValidDisk.mono _ _ _) (fun _ => LeO.refl _)
set_option maxHeartbeats 8000000 in
set_option maxRecDepth 100000 in
theorem impl_DiskWrite.calls (k : Nat) (A0_0 : Option Addr) (c0_0 : Nat) (l0_0 : List Int) (A0_1 : Option Addr) (c0_1 : Nat) (l0_1 : List S45) (a1 : Int) (A2 : Option Addr) (c2 : Nat) (l2 : List Int) (r1 : List Int) (r2 : List S45) (w : World) (hr0_0 : Kd.C (Kd.int .u8) w A0_0 l0_0.length l0_0) (hc0_0 : l0_0.length ≤ c0_0) (hr0_1 : Kd.C k45 w A0_1 l0_1.length l0_1) (hc0_1 : l0_1.length ≤ c0_1) (hr2 : Kd.C (Kd.int .u8) w A2 l2.length l2) (hc2 : l2.length ≤ c2) (h : impl_DiskWrite.f k l0_0 l0_1 a1 l2 = some (r1, r2)) :
  Calls Try.prog 16 #[.agg #[.slice A0_0 l0_0.length c0_0, .slice A0_1 l0_1.length c0_1], .int .i64 a1, .slice A2 l2.length c2] w fun e w' => ∃ v0_ v1_ : Value, e = .returned (.agg #[v0_, v1_]) ∧ Kd.R (Kd.int .u8) 5 w' w.heap.size (fun _ => True) v0_ r1 ∧ Kd.S k45 45 w' w.heap.size (fun k_ => some k_ ≠ (v0_ : Value).ownBlock) v1_ r2 ∧ Below w.heap.size w w' := by
 have HR0 := Aside0.mk hr0_0
 have HC0 := Aside0.mk hc0_0
 have HR1 := Aside0.mk hr0_1
 have HC1 := Aside0.mk hc0_1
 have HR2 := Aside0.mk hr2
 clear hr0_0 hc0_0 hr0_1 hc0_1 hr2
 unfold impl_DiskWrite.f at h
 obtain ⟨t, ht, h⟩ := Option.bind_eq_some_iff.mp h
 have HVD := Aside0.mk ht
 clear ht
 cases t with
 | false =>
  rw [if_neg (by decide)] at h
  simp only [Option.some.injEq, Prod.mk.injEq] at h
  obtain ⟨rfl, rfl⟩ := h
  go_enter Try.func16, Try.ntmps16
  go_wp2_with (first | ((with_reducible refine zt (N := 3) rfl ?_); refine Go.Proofs.YtejecjjimggjeaaH.box_arr (cs := #[.slice A0_0 l0_0.length c0_0, .slice A0_1 l0_1.length c0_1]) rfl (t := 35) rfl (N := 3) rfl rfl ?_; intro g1 hg1 w1 hA1 hb_; have HA1 := Aside0.mk hA1; have HB1 := Aside0.mk hb_; clear hA1 hb_ hg1) | ((with_reducible refine zt (N := 6) rfl ?_); refine Go.Proofs.YtejecjjimggjeaaH.alloc_arr rfl (t := 35) rfl (N := 6) rfl (zs := #[.slice none 0 0, .slice none 0 0]) (n := 2) (by kernel_rfl) ?_; intro g6 hg6 w2 hA6 hb_ _; have HA6 := Aside0.mk hA6; have HA12 := Aside0.mk ((hb_.block _ (zr HA1.out)).trans HA1.out); have HB2 := Aside0.mk (zk HB1.out hb_); have HGE6 := Aside0.mk (show w.heap.size ≤ g6 by (rw [hg6]; exact HB1.out.size)); have hc10 : w2.cell? ⟨g1, 0, none⟩ = some (.slice A0_0 l0_0.length c0_0) := (zb HA12.out 0).trans rfl; have hc11 : w2.cell? ⟨g1, 1, none⟩ = some (.slice A0_1 l0_1.length c0_1) := (zb HA12.out 1).trans rfl; clear hA6 hb_ hg6) | ((with_reducible refine zo (f := 39) rfl ?_); refine zC (some 9) rfl rfl Try.func39 (by kernel_rfl) rfl #[.agg #[.slice A0_0 l0_0.length c0_0, .slice A0_1 l0_1.length c0_1]] rfl (by (try simp only [List.map_toArray, List.map_cons, List.map_nil]); first | done | rfl) ?_; refine (impl_ValidDisk.calls k A0_0 c0_0 l0_0 A0_1 c0_1 l0_1 _ w2 (Kd.C_below HR0.out HB2.out) HC0.out (Kd.C_below HR1.out HB2.out) HC1.out HVD.out).mono ?_; rintro e w3 ⟨rfl, hb_⟩; refine ⟨_, rfl, ?_⟩; have HA13 := Aside0.mk ((hb_.block _ (zr HA12.out)).trans HA12.out); have HA63 := Aside0.mk ((hb_.block _ (zr HA6.out)).trans HA6.out); have HB3 := Aside0.mk (zk HB2.out hb_); clear hb_ hc10 hc11; have hc10 : w3.cell? ⟨g1, 0, none⟩ = some (.slice A0_0 l0_0.length c0_0) := (zb HA13.out 0).trans rfl; have hc11 : w3.cell? ⟨g1, 1, none⟩ = some (.slice A0_1 l0_1.length c0_1) := (zb HA13.out 1).trans rfl) | (refine Go.Proofs.YtejecjjimggjeaaH.store_arr (g := g6) (cells := #[.slice none 0 0, .slice none 0 0]) rfl (t := 35) rfl rfl rfl rfl HA63.out (by kernel_rfl) rfl (by kernel_rfl) ?_; intro w9 hA9 hg9; have HA9 := Aside0.mk hA9; have HB9 := Aside0.mk (zv HB3.out (some g6) HB3.out.size hg9 (fun k_ hk_ => by injection hk_ with hk_; exact hk_ ▸ HGE6.out)); clear hA9 hg9))
  refine bodyPost_ret (results_cell_row rfl _ _ g6 35 _ (0, 0) _ rfl HA9.out Try.underlying35 rfl (by kernel_rfl)) rfl ?_
  exact ⟨_, _, rfl, Kd.R_nil _ _ _ _ _, Kd.S_nil _ _ _ _ _, HB9.out⟩
 | true =>
  rw [if_pos rfl] at h
  by_cases c4 : (l0_1.length : Int) = 2000
  ·rw [if_pos c4] at h
   simp only [Option.some.injEq, Prod.mk.injEq] at h
   obtain ⟨rfl, rfl⟩ := h
   have c4b : ((l0_1.length : Int) == 2000) = true := beq_iff_eq.mpr c4
   clear c4
   go_enter Try.func16, Try.ntmps16
   go_wp2_with (first | ((with_reducible refine zt (N := 3) rfl ?_); refine Go.Proofs.YtejecjjimggjeaaH.box_arr (cs := #[.slice A0_0 l0_0.length c0_0, .slice A0_1 l0_1.length c0_1]) rfl (t := 35) rfl (N := 3) rfl rfl ?_; intro g1 hg1 w1 hA1 hb_; have HA1 := Aside0.mk hA1; have HB1 := Aside0.mk hb_; clear hA1 hb_ hg1) | ((with_reducible refine zt (N := 6) rfl ?_); refine Go.Proofs.YtejecjjimggjeaaH.alloc_arr rfl (t := 35) rfl (N := 6) rfl (zs := #[.slice none 0 0, .slice none 0 0]) (n := 2) (by kernel_rfl) ?_; intro g6 hg6 w2 hA6 hb_ _; have HA6 := Aside0.mk hA6; have HA12 := Aside0.mk ((hb_.block _ (zr HA1.out)).trans HA1.out); have HB2 := Aside0.mk (zk HB1.out hb_); have HGE6 := Aside0.mk (show w.heap.size ≤ g6 by (rw [hg6]; exact HB1.out.size)); have hc10 : w2.cell? ⟨g1, 0, none⟩ = some (.slice A0_0 l0_0.length c0_0) := (zb HA12.out 0).trans rfl; have hc11 : w2.cell? ⟨g1, 1, none⟩ = some (.slice A0_1 l0_1.length c0_1) := (zb HA12.out 1).trans rfl; clear hA6 hb_ hg6) | ((with_reducible refine zo (f := 39) rfl ?_); refine zC (some 9) rfl rfl Try.func39 (by kernel_rfl) rfl #[.agg #[.slice A0_0 l0_0.length c0_0, .slice A0_1 l0_1.length c0_1]] rfl (by (try simp only [List.map_toArray, List.map_cons, List.map_nil]); first | done | rfl) ?_; refine (impl_ValidDisk.calls k A0_0 c0_0 l0_0 A0_1 c0_1 l0_1 _ w2 (Kd.C_below HR0.out HB2.out) HC0.out (Kd.C_below HR1.out HB2.out) HC1.out HVD.out).mono ?_; rintro e w3 ⟨rfl, hb_⟩; refine ⟨_, rfl, ?_⟩; have HA13 := Aside0.mk ((hb_.block _ (zr HA12.out)).trans HA12.out); have HA63 := Aside0.mk ((hb_.block _ (zr HA6.out)).trans HA6.out); have HB3 := Aside0.mk (zk HB2.out hb_); clear hb_ hc10 hc11; have hc10 : w3.cell? ⟨g1, 0, none⟩ = some (.slice A0_0 l0_0.length c0_0) := (zb HA13.out 0).trans rfl; have hc11 : w3.cell? ⟨g1, 1, none⟩ = some (.slice A0_1 l0_1.length c0_1) := (zb HA13.out 1).trans rfl) | (refine Go.Proofs.YtejecjjimggjeaaH.store_arr (g := g6) (cells := #[.slice none 0 0, .slice none 0 0]) rfl (t := 35) rfl rfl rfl rfl HA63.out (by kernel_rfl) rfl (by kernel_rfl) ?_; intro w9 hA9 hg9; have HA9 := Aside0.mk hA9; have HB9 := Aside0.mk (zv HB3.out (some g6) HB3.out.size hg9 (fun k_ hk_ => by injection hk_ with hk_; exact hk_ ▸ HGE6.out)); clear hA9 hg9))
   refine bodyPost_ret (results_cell_row rfl _ _ g6 35 _ (0, 0) _ rfl HA9.out Try.underlying35 rfl (by kernel_rfl)) rfl ?_
   exact ⟨_, _, rfl, Kd.R_nil _ _ _ _ _, Kd.S_nil _ _ _ _ _, HB9.out⟩
  ·rw [if_neg c4] at h
   have c4b : ((l0_1.length : Int) == 2000) = false := beq_eq_false_iff_ne.mpr c4
   by_cases c1 : a1 < 0
   ·rw [if_pos c1] at h
    simp only [Option.some.injEq, Prod.mk.injEq] at h
    obtain ⟨rfl, rfl⟩ := h
    have c0 : decide (a1 < 0) = true := decide_eq_true c1
    clear c1 c4
    go_enter Try.func16, Try.ntmps16
    go_wp2_with (first | ((with_reducible refine zt (N := 3) rfl ?_); refine Go.Proofs.YtejecjjimggjeaaH.box_arr (cs := #[.slice A0_0 l0_0.length c0_0, .slice A0_1 l0_1.length c0_1]) rfl (t := 35) rfl (N := 3) rfl rfl ?_; intro g1 hg1 w1 hA1 hb_; have HA1 := Aside0.mk hA1; have HB1 := Aside0.mk hb_; clear hA1 hb_ hg1) | ((with_reducible refine zt (N := 6) rfl ?_); refine Go.Proofs.YtejecjjimggjeaaH.alloc_arr rfl (t := 35) rfl (N := 6) rfl (zs := #[.slice none 0 0, .slice none 0 0]) (n := 2) (by kernel_rfl) ?_; intro g6 hg6 w2 hA6 hb_ _; have HA6 := Aside0.mk hA6; have HA12 := Aside0.mk ((hb_.block _ (zr HA1.out)).trans HA1.out); have HB2 := Aside0.mk (zk HB1.out hb_); have HGE6 := Aside0.mk (show w.heap.size ≤ g6 by (rw [hg6]; exact HB1.out.size)); have hc10 : w2.cell? ⟨g1, 0, none⟩ = some (.slice A0_0 l0_0.length c0_0) := (zb HA12.out 0).trans rfl; have hc11 : w2.cell? ⟨g1, 1, none⟩ = some (.slice A0_1 l0_1.length c0_1) := (zb HA12.out 1).trans rfl; clear hA6 hb_ hg6) | ((with_reducible refine zo (f := 39) rfl ?_); refine zC (some 9) rfl rfl Try.func39 (by kernel_rfl) rfl #[.agg #[.slice A0_0 l0_0.length c0_0, .slice A0_1 l0_1.length c0_1]] rfl (by (try simp only [List.map_toArray, List.map_cons, List.map_nil]); first | done | rfl) ?_; refine (impl_ValidDisk.calls k A0_0 c0_0 l0_0 A0_1 c0_1 l0_1 _ w2 (Kd.C_below HR0.out HB2.out) HC0.out (Kd.C_below HR1.out HB2.out) HC1.out HVD.out).mono ?_; rintro e w3 ⟨rfl, hb_⟩; refine ⟨_, rfl, ?_⟩; have HA13 := Aside0.mk ((hb_.block _ (zr HA12.out)).trans HA12.out); have HA63 := Aside0.mk ((hb_.block _ (zr HA6.out)).trans HA6.out); have HB3 := Aside0.mk (zk HB2.out hb_); clear hb_ hc10 hc11; have hc10 : w3.cell? ⟨g1, 0, none⟩ = some (.slice A0_0 l0_0.length c0_0) := (zb HA13.out 0).trans rfl; have hc11 : w3.cell? ⟨g1, 1, none⟩ = some (.slice A0_1 l0_1.length c0_1) := (zb HA13.out 1).trans rfl) | (refine Go.Proofs.YtejecjjimggjeaaH.store_arr (g := g6) (cells := #[.slice none 0 0, .slice none 0 0]) rfl (t := 35) rfl rfl rfl rfl HA63.out (by kernel_rfl) rfl (by kernel_rfl) ?_; intro w9 hA9 hg9; have HA9 := Aside0.mk hA9; have HB9 := Aside0.mk (zv HB3.out (some g6) HB3.out.size hg9 (fun k_ hk_ => by injection hk_ with hk_; exact hk_ ▸ HGE6.out)); clear hA9 hg9))
    refine bodyPost_ret (results_cell_row rfl _ _ g6 35 _ (0, 0) _ rfl HA9.out Try.underlying35 rfl (by kernel_rfl)) rfl ?_
    exact ⟨_, _, rfl, Kd.R_nil _ _ _ _ _, Kd.S_nil _ _ _ _ _, HB9.out⟩
   ·rw [if_neg c1] at h
    have c0 : decide (a1 < 0) = false := decide_eq_false c1
    obtain ⟨n, hn, h⟩ := Option.bind_eq_some_iff.mp h
    have HBL := Aside0.mk hn
    clear hn
    by_cases c2 : a1 ≥ n
    ·rw [if_pos c2] at h
     simp only [Option.some.injEq, Prod.mk.injEq] at h
     obtain ⟨rfl, rfl⟩ := h
     have c3 : decide (n ≤ a1) = true := decide_eq_true c2
     clear c1 c2 c4
     go_enter Try.func16, Try.ntmps16
     go_wp2_with (first | ((with_reducible refine zt (N := 3) rfl ?_); refine Go.Proofs.YtejecjjimggjeaaH.box_arr (cs := #[.slice A0_0 l0_0.length c0_0, .slice A0_1 l0_1.length c0_1]) rfl (t := 35) rfl (N := 3) rfl rfl ?_; intro g1 hg1 w1 hA1 hb_; have HA1 := Aside0.mk hA1; have HB1 := Aside0.mk hb_; clear hA1 hb_ hg1) | ((with_reducible refine zt (N := 6) rfl ?_); refine Go.Proofs.YtejecjjimggjeaaH.alloc_arr rfl (t := 35) rfl (N := 6) rfl (zs := #[.slice none 0 0, .slice none 0 0]) (n := 2) (by kernel_rfl) ?_; intro g6 hg6 w2 hA6 hb_ _; have HA6 := Aside0.mk hA6; have HA12 := Aside0.mk ((hb_.block _ (zr HA1.out)).trans HA1.out); have HB2 := Aside0.mk (zk HB1.out hb_); have HGE6 := Aside0.mk (show w.heap.size ≤ g6 by (rw [hg6]; exact HB1.out.size)); have hc10 : w2.cell? ⟨g1, 0, none⟩ = some (.slice A0_0 l0_0.length c0_0) := (zb HA12.out 0).trans rfl; have hc11 : w2.cell? ⟨g1, 1, none⟩ = some (.slice A0_1 l0_1.length c0_1) := (zb HA12.out 1).trans rfl; clear hA6 hb_ hg6) | ((with_reducible refine zo (f := 39) rfl ?_); refine zC (some 9) rfl rfl Try.func39 (by kernel_rfl) rfl #[.agg #[.slice A0_0 l0_0.length c0_0, .slice A0_1 l0_1.length c0_1]] rfl (by (try simp only [List.map_toArray, List.map_cons, List.map_nil]); first | done | rfl) ?_; refine (impl_ValidDisk.calls k A0_0 c0_0 l0_0 A0_1 c0_1 l0_1 _ w2 (Kd.C_below HR0.out HB2.out) HC0.out (Kd.C_below HR1.out HB2.out) HC1.out HVD.out).mono ?_; rintro e w3 ⟨rfl, hb_⟩; refine ⟨_, rfl, ?_⟩; have HA13 := Aside0.mk ((hb_.block _ (zr HA12.out)).trans HA12.out); have HA63 := Aside0.mk ((hb_.block _ (zr HA6.out)).trans HA6.out); have HB3 := Aside0.mk (zk HB2.out hb_); clear hb_ hc10 hc11; have hc10 : w3.cell? ⟨g1, 0, none⟩ = some (.slice A0_0 l0_0.length c0_0) := (zb HA13.out 0).trans rfl; have hc11 : w3.cell? ⟨g1, 1, none⟩ = some (.slice A0_1 l0_1.length c0_1) := (zb HA13.out 1).trans rfl) | ((with_reducible refine zo (f := 40) rfl ?_); (try (refine gate_guard (by rfl) ?_; dsimp only)); refine zC (some 24) rfl rfl Try.func40 (by kernel_rfl) rfl #[.agg #[.slice A0_0 l0_0.length c0_0, .slice A0_1 l0_1.length c0_1]] rfl (by (try simp only [List.map_toArray, List.map_cons, List.map_nil]); first | done | rfl) ?_; refine (impl_Disk_blocks.calls A0_0 c0_0 l0_0 A0_1 c0_1 l0_1 _ w3 (Kd.C_below HR0.out HB3.out) HC0.out (Kd.C_below HR1.out HB3.out) HC1.out HBL.out).mono ?_; rintro e w4 ⟨rfl, hb_⟩; refine ⟨_, rfl, ?_⟩; have HA14 := Aside0.mk ((hb_.block _ (zr HA13.out)).trans HA13.out); have HA64 := Aside0.mk ((hb_.block _ (zr HA63.out)).trans HA63.out); have HB4 := Aside0.mk (zk HB3.out hb_); clear hb_ hc10 hc11; have hc10 : w4.cell? ⟨g1, 0, none⟩ = some (.slice A0_0 l0_0.length c0_0) := (zb HA14.out 0).trans rfl; have hc11 : w4.cell? ⟨g1, 1, none⟩ = some (.slice A0_1 l0_1.length c0_1) := (zb HA14.out 1).trans rfl) | (refine Go.Proofs.YtejecjjimggjeaaH.store_arr (g := g6) (cells := #[.slice none 0 0, .slice none 0 0]) rfl (t := 35) rfl rfl rfl rfl HA64.out (by kernel_rfl) rfl (by kernel_rfl) ?_; intro w9 hA9 hg9; have HA9 := Aside0.mk hA9; have HB9 := Aside0.mk (zv HB4.out (some g6) HB4.out.size hg9 (fun k_ hk_ => by injection hk_ with hk_; exact hk_ ▸ HGE6.out)); clear hA9 hg9))
     refine bodyPost_ret (results_cell_row rfl _ _ g6 35 _ (0, 0) _ rfl HA9.out Try.underlying35 rfl (by kernel_rfl)) rfl ?_
     exact ⟨_, _, rfl, Kd.R_nil _ _ _ _ _, Kd.S_nil _ _ _ _ _, HB9.out⟩
    ·rw [if_neg c2] at h
     have c3 : decide (n ≤ a1) = false := decide_eq_false c2
     by_cases c5 : (l2.length : Int) = 64
     ·rw [if_pos c5] at h
      have c5b : ((l2.length : Int) == 64) = true := beq_iff_eq.mpr c5
      have c5c : ((l2.length : Int) != 64) = false := bne_eq_false_iff_eq.mpr c5
      unfold impl_DiskWrite.g at h
      split at h
      ·rename_i hg
       simp only [Option.some.injEq, Prod.mk.injEq] at h
       obtain ⟨rfl, rfl⟩ := h
       have HG1 := Aside0.mk hg.1
       have HG2 := Aside0.mk hg.2.1
       have HG3 := Aside0.mk hg.2.2.1
       have HG4 := Aside0.mk hg.2.2.2.1
       have HG5 := Aside0.mk hg.2.2.2.2
       clear hg c1 c2 c4 c5
       go_enter Try.func16, Try.ntmps16
       go_wp2_with (first | ((with_reducible refine zt (N := 3) rfl ?_); refine Go.Proofs.YtejecjjimggjeaaH.box_arr (cs := #[.slice A0_0 l0_0.length c0_0, .slice A0_1 l0_1.length c0_1]) rfl (t := 35) rfl (N := 3) rfl rfl ?_; intro g1 hg1 w1 hA1 hb_; have HA1 := Aside0.mk hA1; have HB1 := Aside0.mk hb_; clear hA1 hb_ hg1) | ((with_reducible refine zt (N := 6) rfl ?_); refine Go.Proofs.YtejecjjimggjeaaH.alloc_arr rfl (t := 35) rfl (N := 6) rfl (zs := #[.slice none 0 0, .slice none 0 0]) (n := 2) (by kernel_rfl) ?_; intro g6 hg6 w2 hA6 hb_ _; have HA6 := Aside0.mk hA6; have HA12 := Aside0.mk ((hb_.block _ (zr HA1.out)).trans HA1.out); have HB2 := Aside0.mk (zk HB1.out hb_); have HGE6 := Aside0.mk (show w.heap.size ≤ g6 by (rw [hg6]; exact HB1.out.size)); have hc10 : w2.cell? ⟨g1, 0, none⟩ = some (.slice A0_0 l0_0.length c0_0) := (zb HA12.out 0).trans rfl; have hc11 : w2.cell? ⟨g1, 1, none⟩ = some (.slice A0_1 l0_1.length c0_1) := (zb HA12.out 1).trans rfl; clear hA6 hb_ hg6) | ((with_reducible refine zo (f := 39) rfl ?_); refine zC (some 9) rfl rfl Try.func39 (by kernel_rfl) rfl #[.agg #[.slice A0_0 l0_0.length c0_0, .slice A0_1 l0_1.length c0_1]] rfl (by (try simp only [List.map_toArray, List.map_cons, List.map_nil]); first | done | rfl) ?_; refine (impl_ValidDisk.calls k A0_0 c0_0 l0_0 A0_1 c0_1 l0_1 _ w2 (Kd.C_below HR0.out HB2.out) HC0.out (Kd.C_below HR1.out HB2.out) HC1.out HVD.out).mono ?_; rintro e w3 ⟨rfl, hb_⟩; refine ⟨_, rfl, ?_⟩; have HA13 := Aside0.mk ((hb_.block _ (zr HA12.out)).trans HA12.out); have HA63 := Aside0.mk ((hb_.block _ (zr HA6.out)).trans HA6.out); have HB3 := Aside0.mk (zk HB2.out hb_); clear hb_ hc10 hc11; have hc10 : w3.cell? ⟨g1, 0, none⟩ = some (.slice A0_0 l0_0.length c0_0) := (zb HA13.out 0).trans rfl; have hc11 : w3.cell? ⟨g1, 1, none⟩ = some (.slice A0_1 l0_1.length c0_1) := (zb HA13.out 1).trans rfl) | ((with_reducible refine zo (f := 40) rfl ?_); (try (refine gate_guard (by rfl) ?_; dsimp only)); refine zC (some 24) rfl rfl Try.func40 (by kernel_rfl) rfl #[.agg #[.slice A0_0 l0_0.length c0_0, .slice A0_1 l0_1.length c0_1]] rfl (by (try simp only [List.map_toArray, List.map_cons, List.map_nil]); first | done | rfl) ?_; refine (impl_Disk_blocks.calls A0_0 c0_0 l0_0 A0_1 c0_1 l0_1 _ w3 (Kd.C_below HR0.out HB3.out) HC0.out (Kd.C_below HR1.out HB3.out) HC1.out HBL.out).mono ?_; rintro e w4 ⟨rfl, hb_⟩; refine ⟨_, rfl, ?_⟩; have HA14 := Aside0.mk ((hb_.block _ (zr HA13.out)).trans HA13.out); have HA64 := Aside0.mk ((hb_.block _ (zr HA63.out)).trans HA63.out); have HB4 := Aside0.mk (zk HB3.out hb_); clear hb_ hc10 hc11; have hc10 : w4.cell? ⟨g1, 0, none⟩ = some (.slice A0_0 l0_0.length c0_0) := (zb HA14.out 0).trans rfl; have hc11 : w4.cell? ⟨g1, 1, none⟩ = some (.slice A0_1 l0_1.length c0_1) := (zb HA14.out 1).trans rfl) | ((with_reducible refine zo (f := 41) rfl ?_); refine zC (some 34) rfl rfl Try.func41 (by kernel_rfl) rfl #[.agg #[.slice A0_0 l0_0.length c0_0, .slice A0_1 l0_1.length c0_1]] rfl (by (try simp only [List.map_toArray, List.map_cons, List.map_nil]); first | done | rfl) ?_; refine (spin_c w4 A0_0 c0_0 l0_0 A0_1 c0_1 l0_1 (Kd.C_below HR0.out HB4.out) HC0.out (Kd.C_below HR1.out HB4.out) HC1.out (pend_all HG4.out) HG1.out HG2.out).mono ?_; rintro e w5 ⟨gp, gy, gm, vD, vP, vK, rfl, hP, hb_⟩; refine ⟨_, rfl, ?_⟩; have HP := Aside0.mk hP; have HA65 := Aside0.mk ((hb_.block _ (zr HA64.out)).trans HA64.out); have HS45 := Aside0.mk hb_; have HB5 := Aside0.mk (zk HB4.out hb_); have HL6 := Aside0.mk (zr HA64.out); clear hP hb_ hc10 hc11) | ((with_reducible refine zt (N := 38) rfl ?_); refine Go.Proofs.YtejecjjimggjeaaH.to_arr rfl (t := 76) (e := 5) (n := 64) rfl (N := 38) rfl rfl Try.underlying76 (by have := HG3.out; omega) ?_) | ((with_reducible refine zt (N := 39) rfl ?_); refine Go.Proofs.YtejecjjimggjeaaH.load_arr (Value.int .u8) (h1 := fun _ => rfl) rfl (t := 76) (e := 5) (n := 64) (A := A2) (xs := l2) rfl (N := 39) rfl rfl Try.underlying76 (by kernel_rfl) (by omega) HG3.out.symm (Kd.C_below HR2.out HB5.out) ?_) | ((with_reducible refine zo (f := 42) rfl ?_); refine zC (some 40) rfl rfl Try.func42 (by kernel_rfl) rfl #[.pointer (some ⟨gp, 0, none⟩), .int .i64 a1, arrV l2] rfl (by (try simp only [List.map_toArray, List.map_cons, List.map_nil]); first | done | rfl) ?_; refine (write_c w5 w4.heap.size _ gp l0_0 l0_1 (yng l0_1) gy gm vD vP vK a1 l2 HG3.out HP.out HS45.out.size (Nat.le_refl _) (by have h1_ := yng_len l0_1; have h2_ := HG2.out; omega) HG2.out).mono ?_; rintro e w6 ⟨rfl, vP', vK', hP, hb_, hk_⟩; refine ⟨_, rfl, ?_⟩; have HP6 := Aside0.mk hP; have HA66 := Aside0.mk ((hk_.2 g6 (zr HA65.out) (fun h_ => by have := HL6.out; omega)).trans HA65.out); have HB46 := Aside0.mk (HS45.out.trans hb_); have HB6 := Aside0.mk (zk HB4.out HB46.out); clear hP hb_ hk_) | ((with_reducible refine zo (f := 43) rfl ?_); refine zC (some 42) rfl rfl Try.func43 (by kernel_rfl) rfl #[.pointer (some ⟨gp, 0, none⟩)] rfl (by (try simp only [List.map_toArray, List.map_cons, List.map_nil]); first | done | rfl) ?_; refine (disk_c w6 w4.heap.size _ gp l0_0 (l0_1 ++ [⟨a1, l2⟩]) _ gy gm vD vP' vK' HP6.out (Nat.le_refl _) HG1.out (by have h2_ := HG2.out; have h5_ := HG5.out; simp only [List.length_append, List.length_singleton]; omega) (pend_le (l0_1 ++ [⟨a1, l2⟩]) (by rw [List.all_append, HG4.out, Bool.true_and]; simp [HG3.out]))).mono ?_; rintro e w7 ⟨v0, v1, rfl, hr_, hs_, hb_⟩; obtain ⟨Av0, cv0, ev0⟩ := Kd.R_slice hr_; subst ev0; obtain ⟨Av1, cv1, ev1⟩ := Kd.S_slice hs_; subst ev1; refine ⟨_, rfl, ?_⟩; have HR7 := Aside0.mk (Kd.R_lower hr_ HB6.out.size); have HS7 := Aside0.mk (Kd.S_lower hs_ HB6.out.size); have HA67 := Aside0.mk ((hb_.block _ (zr HA66.out)).trans HA66.out); have HB7 := Aside0.mk (zk HB6.out hb_); clear hr_ hs_ hb_) | (refine Go.Proofs.YtejecjjimggjeaaH.store_arr (g := g6) (cells := #[.slice Av0 l0_0.length cv0, .slice Av1 (l0_1 ++ [(⟨a1, l2⟩ : S45)]).length cv1]) rfl (t := 35) rfl rfl rfl rfl HA67.out (by kernel_rfl) rfl (by kernel_rfl) ?_; intro w9 hA9 hg9; have HA9 := Aside0.mk hA9; have HG9 := Aside0.mk hg9; have HB9 := Aside0.mk (zv HB7.out (some g6) HB7.out.size hg9 (fun k_ hk_ => by injection hk_ with hk_; exact hk_ ▸ HGE6.out)); clear hA9 hg9))
       refine bodyPost_ret (results_cell_row rfl _ _ g6 35 _ (0, 0) _ rfl HA9.out Try.underlying35 rfl (by kernel_rfl)) rfl ?_
       exact ⟨_, _, rfl, Kd.R_mono (Kd.R_grown (Kd.R_types HR7.out HA67.out (by decide)) HG9.out (fun k_ hk_ e_ => hk_.2 (by injection e_))) (fun _ _ => trivial), Kd.S_mono (Kd.S_grown (Kd.S_types HS7.out HA67.out (by decide)) HG9.out (fun k_ hk_ e_ => hk_.2 (by injection e_))) (fun _ hk_ => hk_.1), HB9.out⟩
      ·cases h
     ·rw [if_neg c5] at h
      simp only [Option.some.injEq, Prod.mk.injEq] at h
      obtain ⟨rfl, rfl⟩ := h
      have c5b : ((l2.length : Int) == 64) = false := beq_eq_false_iff_ne.mpr c5
      have c5c : ((l2.length : Int) != 64) = true := bne_iff_ne.mpr c5
      clear c1 c2 c4 c5
      go_enter Try.func16, Try.ntmps16
      go_wp2_with (first | ((with_reducible refine zt (N := 3) rfl ?_); refine Go.Proofs.YtejecjjimggjeaaH.box_arr (cs := #[.slice A0_0 l0_0.length c0_0, .slice A0_1 l0_1.length c0_1]) rfl (t := 35) rfl (N := 3) rfl rfl ?_; intro g1 hg1 w1 hA1 hb_; have HA1 := Aside0.mk hA1; have HB1 := Aside0.mk hb_; clear hA1 hb_ hg1) | ((with_reducible refine zt (N := 6) rfl ?_); refine Go.Proofs.YtejecjjimggjeaaH.alloc_arr rfl (t := 35) rfl (N := 6) rfl (zs := #[.slice none 0 0, .slice none 0 0]) (n := 2) (by kernel_rfl) ?_; intro g6 hg6 w2 hA6 hb_ _; have HA6 := Aside0.mk hA6; have HA12 := Aside0.mk ((hb_.block _ (zr HA1.out)).trans HA1.out); have HB2 := Aside0.mk (zk HB1.out hb_); have HGE6 := Aside0.mk (show w.heap.size ≤ g6 by (rw [hg6]; exact HB1.out.size)); have hc10 : w2.cell? ⟨g1, 0, none⟩ = some (.slice A0_0 l0_0.length c0_0) := (zb HA12.out 0).trans rfl; have hc11 : w2.cell? ⟨g1, 1, none⟩ = some (.slice A0_1 l0_1.length c0_1) := (zb HA12.out 1).trans rfl; clear hA6 hb_ hg6) | ((with_reducible refine zo (f := 39) rfl ?_); refine zC (some 9) rfl rfl Try.func39 (by kernel_rfl) rfl #[.agg #[.slice A0_0 l0_0.length c0_0, .slice A0_1 l0_1.length c0_1]] rfl (by (try simp only [List.map_toArray, List.map_cons, List.map_nil]); first | done | rfl) ?_; refine (impl_ValidDisk.calls k A0_0 c0_0 l0_0 A0_1 c0_1 l0_1 _ w2 (Kd.C_below HR0.out HB2.out) HC0.out (Kd.C_below HR1.out HB2.out) HC1.out HVD.out).mono ?_; rintro e w3 ⟨rfl, hb_⟩; refine ⟨_, rfl, ?_⟩; have HA13 := Aside0.mk ((hb_.block _ (zr HA12.out)).trans HA12.out); have HA63 := Aside0.mk ((hb_.block _ (zr HA6.out)).trans HA6.out); have HB3 := Aside0.mk (zk HB2.out hb_); clear hb_ hc10 hc11; have hc10 : w3.cell? ⟨g1, 0, none⟩ = some (.slice A0_0 l0_0.length c0_0) := (zb HA13.out 0).trans rfl; have hc11 : w3.cell? ⟨g1, 1, none⟩ = some (.slice A0_1 l0_1.length c0_1) := (zb HA13.out 1).trans rfl) | ((with_reducible refine zo (f := 40) rfl ?_); (try (refine gate_guard (by rfl) ?_; dsimp only)); refine zC (some 24) rfl rfl Try.func40 (by kernel_rfl) rfl #[.agg #[.slice A0_0 l0_0.length c0_0, .slice A0_1 l0_1.length c0_1]] rfl (by (try simp only [List.map_toArray, List.map_cons, List.map_nil]); first | done | rfl) ?_; refine (impl_Disk_blocks.calls A0_0 c0_0 l0_0 A0_1 c0_1 l0_1 _ w3 (Kd.C_below HR0.out HB3.out) HC0.out (Kd.C_below HR1.out HB3.out) HC1.out HBL.out).mono ?_; rintro e w4 ⟨rfl, hb_⟩; refine ⟨_, rfl, ?_⟩; have HA14 := Aside0.mk ((hb_.block _ (zr HA13.out)).trans HA13.out); have HA64 := Aside0.mk ((hb_.block _ (zr HA63.out)).trans HA63.out); have HB4 := Aside0.mk (zk HB3.out hb_); clear hb_ hc10 hc11; have hc10 : w4.cell? ⟨g1, 0, none⟩ = some (.slice A0_0 l0_0.length c0_0) := (zb HA14.out 0).trans rfl; have hc11 : w4.cell? ⟨g1, 1, none⟩ = some (.slice A0_1 l0_1.length c0_1) := (zb HA14.out 1).trans rfl) | (refine Go.Proofs.YtejecjjimggjeaaH.store_arr (g := g6) (cells := #[.slice none 0 0, .slice none 0 0]) rfl (t := 35) rfl rfl rfl rfl HA64.out (by kernel_rfl) rfl (by kernel_rfl) ?_; intro w9 hA9 hg9; have HA9 := Aside0.mk hA9; have HB9 := Aside0.mk (zv HB4.out (some g6) HB4.out.size hg9 (fun k_ hk_ => by injection hk_ with hk_; exact hk_ ▸ HGE6.out)); clear hA9 hg9))
      refine bodyPost_ret (results_cell_row rfl _ _ g6 35 _ (0, 0) _ rfl HA9.out Try.underlying35 rfl (by kernel_rfl)) rfl ?_
      exact ⟨_, _, rfl, Kd.R_nil _ _ _ _ _, Kd.S_nil _ _ _ _ _, HB9.out⟩

end Go.Proofs.Ytejecjjimggjeaa.GFnSync
