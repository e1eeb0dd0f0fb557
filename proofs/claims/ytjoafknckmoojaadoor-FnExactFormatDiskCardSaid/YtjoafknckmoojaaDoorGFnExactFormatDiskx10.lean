/- Written by give.py, a program of this session, that runs the kit's print and lays contracts proved by hand beside it. -/
import Derived.Test.YtjoafknckmoojaaDoorGFnExactFormatDiskx0
import Derived.Test.YtjoafknckmoojaaDoorGFnExactFormatDiskx8
import Derived.Test.YtjoafknckmoojaaDoorGFnExactFormatDiskx9
namespace Go.Proofs.YtjoafknckmoojaaDoor.GFnExactFormatDisk
open Go.RowKit Go.Proofs.YtjoafknckmoojaaDoorW.PrintWords Go.Proofs.YtjoafknckmoojaaDoorW.PrintLast Go.Proofs.YtjoafknckmoojaaDoorW.PrintMore
attribute [local go_sem] max2_int min2_int max_two min_two max_three min_three max_four min_four Go.Proofs.YtjoafknckmoojaaDoorH.str_leq Go.Proofs.YtjoafknckmoojaaDoorH.str_geq Go.Proofs.YtjoafknckmoojaaDoorH.str_gtr   -- for this text's walks alone
set_option linter.unusedVariables false
set_option linter.unusedSimpArgs false

def arrV (l : List Int) : Value := .agg (l.map (Value.int .u8)).toArray
def z64 : List Int := List.replicate 64 0
theorem arrV_z64 : arrV z64 = .agg (Array.replicate 64 (.int .u8 0)) := by unfold arrV z64; rw [List.map_replicate, List.toArray_replicate]
theorem arr_size {l : List Int} (h : l.length = 64) : (l.map (Value.int .u8)).toArray.size = 64 := by simp [h]
theorem arr_one (l : List Int) : (l.map (Value.int .u8)).toArray.all (·.oneCell') = true := by
 apply all_oneCell_toArray; intro v_ hv_; obtain ⟨x_, _, rfl⟩ := List.mem_map.mp hv_; rfl
structure Plat (W : World) (B s gp : Nat) (dur : List Int) (pend : List S195) (m : List (Int × List Int)) (gy gm : Nat) (vD vP vK : Value) : Prop where
 bp : W.heap[gp]? = some (.cells #[vD, vP, .pointer (some ⟨gy, 0, none⟩)] 193 (0, 0))
 bo : W.heap[gy]? = some (.cells #[vK, .map (some gm)] 245 (0, 0))
 bm : YtjoafknckmoojaaDoorH.MapIs (Value.int .i64) arrV W gm m
 rd : (Kd.int .u8).R 5 W B (fun k => k < s) vD dur
 rp : k195.R 195 W B (fun k => k < s ∧ some k ≠ vD.ownBlock) vP pend
 rk : (Kd.int .i64).R 2 W B (fun k => k < s) vK (m.map Prod.fst)
 pp : B ≤ gp ∧ gp < s
 po : B ≤ gy ∧ gy < s
 pm : B ≤ gm ∧ gm < s
 m64 : ∀ p ∈ m, p.2.length = 64
theorem Plat.move {W w' : World} {B s s' gp : Nat} {dur : List Int} {pend : List S195} {m : List (Int × List Int)} {gy gm : Nat} {vD vP vK : Value} (h : Plat W B s gp dur pend m gy gm vD vP vK) (hm : ∀ k, B ≤ k → k < s → w'.heap[k]? = W.heap[k]?) (hs : s ≤ s') : Plat w' B s' gp dur pend m gy gm vD vP vK where
 bp := (hm _ h.pp.1 h.pp.2).trans h.bp
 bo := (hm _ h.po.1 h.po.2).trans h.bo
 bm := h.bm.move (hm _ h.pm.1 h.pm.2)
 rd := Kd.R_mono (Kd.R_move (Kd.R_bound h.rd) (fun k hk => hm k hk.2.1 hk.1)) (fun k hk => Nat.lt_of_lt_of_le hk.1 hs)
 rp := Kd.R_mono (Kd.R_move (Kd.R_bound h.rp) (fun k hk => hm k hk.2.1 hk.1.1)) (fun k hk => ⟨Nat.lt_of_lt_of_le hk.1.1 hs, hk.1.2⟩)
 rk := Kd.R_mono (Kd.R_move (Kd.R_bound h.rk) (fun k hk => hm k hk.2.1 hk.1)) (fun k hk => Nat.lt_of_lt_of_le hk.1 hs)
 pp := ⟨h.pp.1, Nat.lt_of_lt_of_le h.pp.2 hs⟩
 po := ⟨h.po.1, Nat.lt_of_lt_of_le h.po.2 hs⟩
 pm := ⟨h.pm.1, Nat.lt_of_lt_of_le h.pm.2 hs⟩
 m64 := h.m64
theorem Plat.below {W w' : World} {B s gp : Nat} {dur : List Int} {pend : List S195} {m : List (Int × List Int)} {gy gm : Nat} {vD vP vK : Value} (h : Plat W B s gp dur pend m gy gm vD vP vK) (hs : s ≤ W.heap.size) (hb : Below W.heap.size W w') : Plat w' B s gp dur pend m gy gm vD vP vK :=
 h.move (fun k _ h2 => hb.block k (by omega)) (Nat.le_refl _)
theorem run_look64 {W : World} {gm : Nat} {m : List (Int × List Int)} (h : YtjoafknckmoojaaDoorH.MapIs (Value.int .i64) arrV W gm m) (b : Int) :
  (Instr.lookup 243 (.map (some gm)) (.int .i64 b) true).run Tryd.prog W = .ok (.tuple #[arrV ((YtjoafknckmoojaaDoorH.aget m b).getD z64), .bool (YtjoafknckmoojaaDoorH.aget m b).isSome]) W := by
 have hz : ∀ w, (zeroValue 123).run Tryd.prog w = .ok (arrV z64) w := fun w => by
  rw [arrV_z64]; exact (zero_of_info (P := Tryd.prog) (n := 64) (show (Tryd.prog.info? 123).map (fun i => (i.zero, i.size)) = some (some (.agg (Array.replicate 64 (.int .u8 0))), 64) by kernel_rfl)).1 w
 have := YtjoafknckmoojaaDoorH.run_lookup (YtjoafknckmoojaaDoorH.int_key Tryd.underlying2) Tryd.underlying243 b (arrV z64) hz h
 rw [this]
 cases YtjoafknckmoojaaDoorH.aget m b <;> rfl
theorem aget_64 {m : List (Int × List Int)} (h : ∀ p ∈ m, p.2.length = 64) (b : Int) : ((YtjoafknckmoojaaDoorH.aget m b).getD z64).length = 64 := by
 induction m with
 | nil => rfl
 | cons p m ih =>
  simp only [YtjoafknckmoojaaDoorH.aget]
  by_cases c : p.1 = b
  ·rw [if_pos c]; exact h p (by simp)
  ·rw [if_neg c]; exact ih (fun q hq => h q (by simp [hq]))
theorem aset_64 {m : List (Int × List Int)} (h : ∀ p ∈ m, p.2.length = 64) (b : Int) {d : List Int} (hd : d.length = 64) : ∀ p ∈ YtjoafknckmoojaaDoorH.aset m b d, p.2.length = 64 := by
 induction m with
 | nil => intro p hp; simp only [YtjoafknckmoojaaDoorH.aset, List.mem_singleton] at hp; subst hp; exact hd
 | cons q m ih =>
  intro p hp
  obtain ⟨k', v'⟩ := q
  simp only [YtjoafknckmoojaaDoorH.aset] at hp
  by_cases c : k' = b
  ·rw [if_pos c] at hp
   rcases List.mem_cons.mp hp with rfl | hp
   ·exact hd
   ·exact h p (by simp [hp])
  ·rw [if_neg c] at hp
   rcases List.mem_cons.mp hp with rfl | hp
   ·exact h _ (by simp)
   ·exact ih (fun q hq => h q (by simp [hq])) p hp
theorem run_ldarr {o : Oper} {a : Act} {x : Operand} {w : World} {g T : Nat} {l : List Int} (ho : o.op = .load 123 x) (hx : a.eval x = .pointer (some ⟨g, 0, none⟩)) (h : w.heap[g]? = some (.cells (l.map (Value.int .u8)).toArray T (0, 0))) (hl : l.length = 64) :
  (execOp a.eval o).run Tryd.prog w = .ok (.value (arrV l)) w := by
 have hh := run_loadVar_row w g T 123 (l.map (Value.int .u8)).toArray (0, 0) _ h Tryd.underlying123 rfl (by rw [arr_size hl]; kernel_rfl)
 unfold execOp
 simp [ho, hx, Instr.loadAt, Instr.sureAddr, hh, arrV]
theorem run_exec_upd {P : Program} {o : Oper} {a : Act} {t : TypeId} {x k v : Operand} {X K V : Value} {w w1 : World} (ho : o.op = .mapUpdate t x k v) (hx : a.eval x = X) (hk : a.eval k = K) (hv : a.eval v = V) (h : (Instr.mapUpdate t X K V).run P w = .ok () w1) : (execOp a.eval o).run P w = .ok .skip w1 := by
 unfold execOp
 simp [ho, hx, hk, hv, h]
theorem ne_map {w : World} {g gm T : Nat} {cs : Array Value} {f : Nat × Nat} {m : List (Int × List Int)} (h : w.heap[g]? = some (.cells cs T f)) (hm : YtjoafknckmoojaaDoorH.MapIs (Value.int .i64) arrV w gm m) : some g ≠ some gm := by
 intro e; injection e with e; subst e
 obtain ⟨es, c, h1, _⟩ := hm
 rw [h] at h1; cases h1
theorem Kd.R_types' {α : Type} {d : Kd α} {e base gm : Nat} {w : World} {ok : Nat → Prop} {v : Value} {xs : List α} {m : List (Int × List Int)} (h : d.R e w base ok v xs) (hm : YtjoafknckmoojaaDoorH.MapIs (Value.int .i64) arrV w gm m) : d.R e w base (fun k => ok k ∧ k ≠ gm) v xs :=
 Kd.R_mono (Kd.R_bound h) (fun k hk => ⟨hk.1, fun e_ => by obtain ⟨_, _, q, _, cells, hc⟩ := hk.2; subst e_; exact ne_map hc hm rfl⟩)
theorem below_base {W w' : World} {B : Nat} (h : Below W.heap.size W w') (hB : B ≤ W.heap.size) : Below B W w' := below_then (Below.refl B W) hB h
theorem infoI64_ : (Tryd.prog.info? 2).map (fun i => (i.zero, i.size, i.bytes)) = some (some (.int .i64 0), 1, 8) := by kernel_rfl
set_option maxHeartbeats 4000000 in
set_option maxRecDepth 100000 in
theorem newOrd_c (W : World) : Calls Tryd.prog 144 #[] W fun e w' => ∃ gy gm, e = .returned (.pointer (some ⟨gy, 0, none⟩)) ∧ W.heap.size ≤ gy ∧ W.heap.size ≤ gm ∧
  w'.heap[gy]? = some (.cells #[.slice none 0 0, .map (some gm)] 245 (0, 0)) ∧ YtjoafknckmoojaaDoorH.MapIs (Value.int .i64) arrV w' gm ([] : List (Int × List Int)) ∧ Below W.heap.size W w' := by
 have hmm := @run_makeMap Tryd.prog
 go_enter Tryd.func144, Tryd.ntmps144
 go_wp2
 go_ret
 have h0 := YtjoafknckmoojaaDoorH.MapIs.made (ke := Value.int .i64) (ve := arrV) (κ := Int) W
 refine ⟨W.heap.size + 1, W.heap.size, rfl, by omega, Nat.le_refl _, ?_, ?_, zd (zd (Below.refl _ _) _) _⟩
 ·have := blk_new (W.alloc (.map #[] 0)) (.cells #[.slice none 0 0, .map (some W.heap.size)] 245)
  rw [World.size_alloc] at this
  exact this
 ·exact h0.move ((zd (Below.refl (W.alloc (.map #[] 0)).heap.size (W.alloc (.map #[] 0))) _).block _ (by simp))
theorem aset_keys {m : List (Int × List Int)} {b : Int} {d v : List Int} (h : YtjoafknckmoojaaDoorH.aget m b = some v) : (YtjoafknckmoojaaDoorH.aset m b d).map Prod.fst = m.map Prod.fst := by
 induction m with
 | nil => cases h
 | cons p m ih =>
  obtain ⟨k', v'⟩ := p
  simp only [YtjoafknckmoojaaDoorH.aget] at h
  simp only [YtjoafknckmoojaaDoorH.aset]
  by_cases c : k' = b
  ·rw [if_pos c]; simp [c]
  ·rw [if_neg c] at h ⊢; simp [ih h]
theorem MapIs_drew {w : World} {gm : Nat} {m : List (Int × List Int)} (h : YtjoafknckmoojaaDoorH.MapIs (Value.int .i64) arrV w gm m) : YtjoafknckmoojaaDoorH.MapIs (Value.int .i64) arrV w.drew gm m := h
set_option maxHeartbeats 4000000 in
set_option maxRecDepth 100000 in
theorem set_c (W : World) (B s gy gm : Nat) (vK : Value) (m : List (Int × List Int)) (b : Int) (data : List Int) (hd : data.length = 64) (bo : W.heap[gy]? = some (.cells #[vK, .map (some gm)] 245 (0, 0))) (bm : YtjoafknckmoojaaDoorH.MapIs (Value.int .i64) arrV W gm m) (m64 : ∀ p ∈ m, p.2.length = 64)
  (rk : (Kd.int .i64).R 2 W B (fun k => k < s) vK (m.map Prod.fst)) (po : B ≤ gy) (pm : B ≤ gm) (hB : B ≤ W.heap.size) (hs : s ≤ W.heap.size) (hl : m.length ≤ 1000000) :
  Calls Tryd.prog 145 #[.pointer (some ⟨gy, 0, none⟩), .int .i64 b, arrV data] W fun e w' => e = .returned (.tuple #[]) ∧ ∃ vK', w'.heap[gy]? = some (.cells #[vK', .map (some gm)] 245 (0, 0)) ∧
   YtjoafknckmoojaaDoorH.MapIs (Value.int .i64) arrV w' gm (YtjoafknckmoojaaDoorH.aset m b data) ∧ (Kd.int .i64).R 2 w' B (fun k => k < s ∨ W.heap.size ≤ k) vK' ((YtjoafknckmoojaaDoorH.aset m b data).map Prod.fst) ∧ Below B W w' ∧ Kept W w' (fun k => k = gy ∨ k = gm ∨ some k = vK.ownBlock) := by
 have hv := aget_64 m64 b
 obtain ⟨v, hve⟩ : ∃ v, v = (YtjoafknckmoojaaDoorH.aget m b).getD z64 := ⟨_, rfl⟩
 obtain ⟨q, hqe⟩ : ∃ q, q = (YtjoafknckmoojaaDoorH.aget m b).isSome := ⟨_, rfl⟩
 have HV : Aside0 (v.length = 64) := ⟨by rw [hve]; exact hv⟩
 have HVE := Aside0.mk hve
 have HQE := Aside0.mk hqe
 have HD := Aside0.mk hd
 have BO := Aside0.mk bo
 have BM := Aside0.mk bm
 have RK := Aside0.mk rk
 have HBs := Aside0.mk hB
 have HSs := Aside0.mk hs
 have HL := Aside0.mk hl
 have HPO := Aside0.mk po
 have HPM := Aside0.mk pm
 clear hv hve hqe bo bm rk hd hB hs hl po pm m64
 cases q with
 | true =>
  go_enter Tryd.func145, Tryd.ntmps145
  go_wp2_with (first | ((with_reducible refine zr (N := 5) rfl ?_); refine Go.Proofs.YtjoafknckmoojaaDoorH.box_arr (cs := (data.map (Value.int .u8)).toArray) rfl (t := 123) rfl (N := 5) rfl rfl ?_; intro g5 hg5 w1 hA5 hb1; have BO1 := Aside0.mk ((hb1.block _ (zw BO.out)).trans BO.out); have BM1 := Aside0.mk (BM.out.move (hb1.block _ BM.out.lt)); have hc1 : w1.cell? ⟨gy, 1, none⟩ = some (.map (some gm)) := (ze BO1.out 1).trans rfl; have hlk := run_look64 BM1.out b; rw [← HVE.out, ← HQE.out] at hlk; have HA5 := Aside0.mk hA5; have HG5 := Aside0.mk hg5; have HB1 := Aside0.mk hb1; clear hA5 hg5 hb1) | ((with_reducible refine zr (N := 6) rfl ?_); refine Go.Proofs.YtjoafknckmoojaaDoorH.alloc_arr rfl (t := 123) rfl (N := 6) rfl (zs := (Array.replicate 64 (.int .u8 0))) (n := 64) (by kernel_rfl) ?_; intro g6 hg6 w2 hA6 hb2 _; have HG6 := Aside0.mk hg6; have HB2 := Aside0.mk hb2; have HA6 := Aside0.mk hA6; clear hA6 hg6 hb2 hlk hc1) | (refine Go.Proofs.YtjoafknckmoojaaDoorH.store_arr (g := g6) (cells := (v.map (Value.int .u8)).toArray) rfl (t := 123) rfl rfl rfl rfl HA6.out (by rw [arr_size HV.out]; kernel_rfl) (by rw [arr_size HV.out]; rfl) (arr_one v) ?_; intro w3 hA3 hg3; have hb2_ : Below W.heap.size W w2 := zm HB1.out HB2.out; have hb3_ : Below W.heap.size W w3 := pw_below_grown hb2_ (some g6) hb2_.size hg3 (fun k_ hk_ => by injection hk_ with hk_; rw [← hk_, HG6.out]; exact HB1.out.size); have HA53 := Aside0.mk (zz ((HB2.out.block _ (zw HA5.out)).trans HA5.out) hg3 (by intro e_; injection e_ with e_; have h1_ := zw HA5.out; rw [HG6.out] at e_; omega)); have HB3 := Aside0.mk hb3_; have hcK : w3.cell? ⟨gy, 0, none⟩ = some vK := (ze ((HB3.out.block _ (zw BO.out)).trans BO.out) 0).trans rfl; have hfK := zg ((HB3.out.block _ (zw BO.out)).trans BO.out) 0; clear hA3 hg3 hb2_ hb3_))
  clear hcK hfK
  obtain ⟨v0, hg0⟩ : ∃ v0, YtjoafknckmoojaaDoorH.aget m b = some v0 := by
   have := HQE.out
   cases hh : YtjoafknckmoojaaDoorH.aget m b with
   | none => rw [hh] at this; cases this
   | some v0 => exact ⟨v0, rfl⟩
  have BO3 := Aside0.mk ((HB3.out.block _ (zw BO.out)).trans BO.out)
  have BM3 := Aside0.mk (BM.out.move (HB3.out.block _ BM.out.lt))
  have RK3 : Aside0 ((Kd.int .i64).R 2 w3 B (fun k => k < s ∨ W.heap.size ≤ k) vK ((YtjoafknckmoojaaDoorH.aset m b data).map Prod.fst)) := ⟨by rw [aset_keys hg0]; exact Kd.R_mono (Kd.R_below RK.out HB3.out) (fun _ hk => .inl hk)⟩
  have KB3 := Aside0.mk (below_base HB3.out HBs.out)
  have FB3 : Aside0 (Kept W w3 (fun k => k = gy ∨ k = gm ∨ some k = vK.ownBlock)) := ⟨Kept.of_below HB3.out _⟩
  refine start_ (n := 7) (S := fun w' => w'.cell? ⟨gy, 1, none⟩ = some (.map (some gm)) ∧ w'.heap[g5]? = some (.cells (data.map (Value.int .u8)).toArray 123 (0, 0))) (ds := []) #[false, false, false, false, false, false, false] (by kernel_rfl) rfl rfl ⟨(ze (zl BO3.out) 1).trans rfl, zl HA53.out⟩ (fun hHeld => ?_)
  have BO4 := Aside0.mk (zl BO3.out); have BM4 := Aside0.mk (MapIs_drew BM3.out); have RK4 := Aside0.mk (Kd.R_drew RK3.out); have KB4 := Aside0.mk (KB3.out.drew); have FB4 := Aside0.mk (Kept.drew FB3.out); generalize w3.drew = w4 at BO4 BM4 RK4 KB4 FB4 hHeld ⊢
  refine zv (i := 0) (N := some 29) (v := ?_) (a' := ?_) #[true, false, false, false, false, false, false] rfl rfl (by kernel_rfl) (fun _ _ _ h => h) (Or.inl ⟨by rfl, ?_⟩) ?_ ?_
  rotate_left
  ·intro w'
   go_simp
   with_reducible rfl
  rotate_left
  ·simp only [Act.put, List.setIfInBounds_toArray, List.set_cons_zero, List.set_cons_succ, zp, zq]
   rfl
  refine zv (i := 1) (N := some 30) (v := ?_) (a' := ?_) #[true, true, false, false, false, false, false] rfl rfl (by kernel_rfl) (fun _ _ _ h => h) (Or.inl ⟨by rfl, ?_⟩) ?_ ?_
  rotate_left
  ·intro w'
   go_simp
   with_reducible rfl
  rotate_left
  ·simp only [Act.put, List.setIfInBounds_toArray, List.set_cons_zero, List.set_cons_succ, zp, zq]
   rfl
  refine zv (i := 2) (N := some 31) (v := ?_) (a' := ?_) #[true, true, true, false, false, false, false] rfl rfl (by kernel_rfl) (fun _ _ _ h => h) (Or.inl ⟨by rfl, ?_⟩) ?_ ?_
  rotate_left
  ·intro w'
   go_simp
   with_reducible rfl
  rotate_left
  ·simp only [Act.put, List.setIfInBounds_toArray, List.set_cons_zero, List.set_cons_succ, zp, zq]
   rfl
  refine zv (i := 4) (N := some 33) (v := ?_) (a' := ?_) #[true, true, true, false, true, false, false] rfl rfl (by kernel_rfl) (fun _ _ _ h => h) (Or.inl ⟨by rfl, ?_⟩) ?_ ?_
  rotate_left
  ·intro w'
   go_simp
   with_reducible rfl
  rotate_left
  ·simp only [Act.put, List.setIfInBounds_toArray, List.set_cons_zero, List.set_cons_succ, zp, zq]
   rfl
  refine take_ (i := 3) (N := some 32) (v := ?_) (a' := ?_) #[true, true, true, true, true, false, false] rfl rfl (by kernel_rfl) (fun _ _ _ h => h) (Or.inl ⟨by rfl, ?_⟩) hHeld ?_ ?_
  rotate_left
  ·rintro w' ⟨s0, s1⟩
   go_simp
   with_reducible rfl
  rotate_left
  ·simp only [Act.put, List.setIfInBounds_toArray, List.set_cons_zero, List.set_cons_succ, zp, zq]
   rfl
  refine take_ (i := 5) (N := some 34) (v := arrV data) (a' := ?_) #[true, true, true, true, true, true, false] rfl rfl (by kernel_rfl) (fun _ _ _ h => h) (Or.inl ⟨by rfl, ?_⟩) hHeld ?_ ?_
  ·rintro w' ⟨s0, s1⟩
   exact run_ldarr (by rfl) (by rfl) s1 HD.out
  rotate_left
  ·simp only [Act.put, List.setIfInBounds_toArray, List.set_cons_zero, List.set_cons_succ, zp, zq]
   rfl
  refine one_ (i := 6) (N := none) #[true, true, true, true, true, true, true] rfl rfl (by kernel_rfl) (by decide) (fun K hK => ?_)
  obtain ⟨w5, hup, hm5, hg5, hs5⟩ := YtjoafknckmoojaaDoorH.run_update (YtjoafknckmoojaaDoorH.int_key Tryd.underlying2) Tryd.underlying243 b data BM4.out
  refine skip_ (w1 := w5) (by rfl) rfl (run_exec_upd (by rfl) (by rfl) (by rfl) (by rfl) hup) ?_
  have BO5 := Aside0.mk (zz BO4.out hg5 (ne_map BO4.out BM4.out))
  refine hK.out _ _ ⟨(ze BO5.out 1).trans rfl, zz hHeld.2 hg5 (ne_map hHeld.2 BM4.out)⟩ (fun hHeld => ?_)
  clear hK K
  refine done_ (by kernel_rfl) ?_
  try go_wp2
  go_end0
  refine ⟨rfl, vK, BO5.out, hm5, ?_, ?_, ?_⟩
  ·exact Kd.R_mono (Kd.R_grown (Kd.R_types' RK4.out BM4.out) hg5 (fun k_ hk_ e_ => hk_.2 (by injection e_))) (fun _ hk_ => hk_.1)
  ·exact pw_below_grown KB4.out (some gm) (Nat.le_trans HBs.out KB4.out.size) hg5 (fun k_ hk_ => by injection hk_ with hk_; exact hk_ ▸ HPM.out)
  ·exact Kept.of_grown hg5 FB4.out (fun k_ hk_ => by injection hk_ with hk_; exact .inl (.inr (.inl hk_.symm)))
 | false =>
  go_enter Tryd.func145, Tryd.ntmps145
  go_wp2_with (first | ((with_reducible refine zr (N := 5) rfl ?_); refine Go.Proofs.YtjoafknckmoojaaDoorH.box_arr (cs := (data.map (Value.int .u8)).toArray) rfl (t := 123) rfl (N := 5) rfl rfl ?_; intro g5 hg5 w1 hA5 hb1; have BO1 := Aside0.mk ((hb1.block _ (zw BO.out)).trans BO.out); have BM1 := Aside0.mk (BM.out.move (hb1.block _ BM.out.lt)); have hc1 : w1.cell? ⟨gy, 1, none⟩ = some (.map (some gm)) := (ze BO1.out 1).trans rfl; have hlk := run_look64 BM1.out b; rw [← HVE.out, ← HQE.out] at hlk; have HA5 := Aside0.mk hA5; have HG5 := Aside0.mk hg5; have HB1 := Aside0.mk hb1; clear hA5 hg5 hb1) | ((with_reducible refine zr (N := 6) rfl ?_); refine Go.Proofs.YtjoafknckmoojaaDoorH.alloc_arr rfl (t := 123) rfl (N := 6) rfl (zs := (Array.replicate 64 (.int .u8 0))) (n := 64) (by kernel_rfl) ?_; intro g6 hg6 w2 hA6 hb2 _; have HG6 := Aside0.mk hg6; have HB2 := Aside0.mk hb2; have HA6 := Aside0.mk hA6; clear hA6 hg6 hb2 hlk hc1) | (refine Go.Proofs.YtjoafknckmoojaaDoorH.store_arr (g := g6) (cells := (v.map (Value.int .u8)).toArray) rfl (t := 123) rfl rfl rfl rfl HA6.out (by rw [arr_size HV.out]; kernel_rfl) (by rw [arr_size HV.out]; rfl) (arr_one v) ?_; intro w3 hA3 hg3; have hb2_ : Below W.heap.size W w2 := zm HB1.out HB2.out; have hb3_ : Below W.heap.size W w3 := pw_below_grown hb2_ (some g6) hb2_.size hg3 (fun k_ hk_ => by injection hk_ with hk_; rw [← hk_, HG6.out]; exact HB1.out.size); have HA53 := Aside0.mk (zz ((HB2.out.block _ (zw HA5.out)).trans HA5.out) hg3 (by intro e_; injection e_ with e_; have h1_ := zw HA5.out; rw [HG6.out] at e_; omega)); have HB3 := Aside0.mk hb3_; have hcK : w3.cell? ⟨gy, 0, none⟩ = some vK := (ze ((HB3.out.block _ (zw BO.out)).trans BO.out) 0).trans rfl; have hfK := zg ((HB3.out.block _ (zw BO.out)).trans BO.out) 0; clear hA3 hg3 hb2_ hb3_) | ((with_reducible refine gate_builtin (b := .append) (xs := #[.tmp 23, .tmp 25]) rfl ?_); at_builtin; refine Kd.R_append (Kd.int .i64) (w0 := W) B rfl (.tmp 23) (.tmp 25) 84 2 (.int .i64 0) 8 rfl Tryd.underlying84 infoI64_ rfl (by decide) (by omega) vK (m.map Prod.fst) b [.int .i64 b] (fun k => k < s ∨ W.heap.size ≤ k) (fun _ => False) rfl rfl ?aP (fun _ hk => hk.elim) ?aF ?aO ?aB ?aS ?aL ?_; (case aP => exact rfl); (case aB => exact below_base HB3.out HBs.out); (case aF => exact (fun k_ hk => .inr (Nat.le_trans HB3.out.size hk))); (case aO => exact (Kd.R_mono (Kd.R_below RK.out HB3.out) (fun _ hk => .inl hk))); (case aS => exact Nat.le_trans HBs.out HB3.out.size); (case aL => have := HL.out; simp; omega); intro vK1 w7 ho hb7 hg7 hat7; obtain ⟨ks1, hks1⟩ : ∃ k_, k_ = m.map Prod.fst ++ [b] := ⟨_, rfl⟩; rw [← hks1] at ho; have HKS := Aside0.mk hks1; clear hks1; obtain ⟨A7, c7, e7⟩ := Kd.R_slice ho; subst e7; have hne_ : some gy ≠ vK.ownBlock := (Kd.R_ne (Kd.R_below RK.out HB3.out) ((HB3.out.block _ (zw BO.out)).trans BO.out) (by decide)); have hbo7 := zz ((HB3.out.block _ (zw BO.out)).trans BO.out) hg7 hne_; have hcK7 : w7.cell? ⟨gy, 0, none⟩ = some vK := (ze hbo7 0).trans rfl; have hfK7 := zg hbo7 0; have zA := Aside0.mk ho; have BO7 := Aside0.mk hbo7; have HG7 := Aside0.mk hg7; have HB7 := Aside0.mk hb7; have HAT7 := Aside0.mk hat7; (try clear ho hb7 hg7 hat7); (try clear hne_); (try clear hbo7); (try clear hcK); (try clear hfK)))
  have hg0 : YtjoafknckmoojaaDoorH.aget m b = none := by
   have := HQE.out
   cases hh : YtjoafknckmoojaaDoorH.aget m b with
   | none => rfl
   | some v0 => rw [hh] at this; cases this
  clear hcK7 hfK7
  have KB7 := Aside0.mk (below_base HB3.out HBs.out)
  have hbm3 := BM.out.move (HB3.out.block _ BM.out.lt)
  have hgm : some gm ≠ vK.ownBlock := fun e_ => by
   obtain ⟨cells, hc⟩ := Kd.R_typed (Kd.R_below RK.out HB3.out) gm e_.symm
   exact ne_map hc hbm3 rfl
  have hg5k : some g5 ≠ vK.ownBlock := fun e_ => by have h1_ := Kd.R_lt RK.out g5 e_.symm; rw [HG5.out] at h1_; omega
  have BO3 : Aside0 ((w7.setCell ⟨gy, 0, none⟩ (.slice A7 ks1.length c7)).heap[gy]? = some (.cells #[(.slice A7 ks1.length c7), .map (some gm)] 245 (0, 0))) := ⟨zy BO7.out 0 (.slice A7 ks1.length c7) rfl⟩
  have hm7 : w7.heap[gm]? = w3.heap[gm]? := HG7.out.block _ hbm3.lt hgm
  have hne : gm ≠ gy := fun e_ => ne_map ((HB3.out.block _ (zw BO.out)).trans BO.out) hbm3 (by rw [e_])
  have BM3 : Aside0 (YtjoafknckmoojaaDoorH.MapIs (Value.int .i64) arrV (w7.setCell ⟨gy, 0, none⟩ (.slice A7 ks1.length c7)) gm m) := ⟨hbm3.move ((Below.heap_setCell w7 ⟨gy, 0, none⟩ (.slice A7 ks1.length c7) gm hne).trans hm7)⟩
  have RK3 : Aside0 ((Kd.int .i64).R 2 (w7.setCell ⟨gy, 0, none⟩ (.slice A7 ks1.length c7)) B (fun k => k < s ∨ W.heap.size ≤ k) (.slice A7 ks1.length c7) ((YtjoafknckmoojaaDoorH.aset m b data).map Prod.fst)) := ⟨by rw [YtjoafknckmoojaaDoorH.aset_new b data hg0, List.map_append, show m.map Prod.fst ++ [(b, data)].map Prod.fst = ks1 from HKS.out.symm]; exact Kd.R_set zA.out BO7.out (by decide) 0 (.slice A7 ks1.length c7)⟩
  have HA53' : Aside0 ((w7.setCell ⟨gy, 0, none⟩ (.slice A7 ks1.length c7)).heap[g5]? = some (.cells (data.map (Value.int .u8)).toArray 123 (0, 0))) := ⟨blk_far (zz HA53.out HG7.out hg5k) (fun e_ => by have h1_ := zw BO.out; have e2_ : g5 = gy := e_; rw [← e2_, HG5.out] at h1_; omega) (.slice A7 ks1.length c7)⟩
  have KB3 : Aside0 (Below B W (w7.setCell ⟨gy, 0, none⟩ (.slice A7 ks1.length c7))) := ⟨Below.setCell HB7.out HPO.out (.slice A7 ks1.length c7)⟩
  have FB3 : Aside0 (Kept W (w7.setCell ⟨gy, 0, none⟩ (.slice A7 ks1.length c7)) (fun k => k = gy ∨ k = gm ∨ some k = vK.ownBlock)) := ⟨Kept.setCell (Kept.of_grown HG7.out (Kept.of_below HB3.out _) (fun k_ hk_ => .inl (.inr (.inr hk_.symm)))) (.inl (.inl rfl)) (.slice A7 ks1.length c7)⟩
  clear HA53 hbm3 hm7
  have HA53 := HA53'
  clear HA53'
  refine start_ (n := 7) (S := fun w' => w'.cell? ⟨gy, 1, none⟩ = some (.map (some gm)) ∧ w'.heap[g5]? = some (.cells (data.map (Value.int .u8)).toArray 123 (0, 0))) (ds := []) #[false, false, false, false, false, false, false] (by kernel_rfl) rfl rfl ⟨(ze (zl BO3.out) 1).trans rfl, zl HA53.out⟩ (fun hHeld => ?_)
  have BO4 := Aside0.mk (zl BO3.out); have BM4 := Aside0.mk (MapIs_drew BM3.out); have RK4 := Aside0.mk (Kd.R_drew RK3.out); have KB4 := Aside0.mk (KB3.out.drew); have FB4 := Aside0.mk (Kept.drew FB3.out); generalize (w7.setCell ⟨gy, 0, none⟩ (.slice A7 ks1.length c7)).drew = w4 at BO4 BM4 RK4 KB4 FB4 hHeld ⊢
  refine zv (i := 0) (N := some 29) (v := ?_) (a' := ?_) #[true, false, false, false, false, false, false] rfl rfl (by kernel_rfl) (fun _ _ _ h => h) (Or.inl ⟨by rfl, ?_⟩) ?_ ?_
  rotate_left
  ·intro w'
   go_simp
   with_reducible rfl
  rotate_left
  ·simp only [Act.put, List.setIfInBounds_toArray, List.set_cons_zero, List.set_cons_succ, zp, zq]
   rfl
  refine zv (i := 1) (N := some 30) (v := ?_) (a' := ?_) #[true, true, false, false, false, false, false] rfl rfl (by kernel_rfl) (fun _ _ _ h => h) (Or.inl ⟨by rfl, ?_⟩) ?_ ?_
  rotate_left
  ·intro w'
   go_simp
   with_reducible rfl
  rotate_left
  ·simp only [Act.put, List.setIfInBounds_toArray, List.set_cons_zero, List.set_cons_succ, zp, zq]
   rfl
  refine zv (i := 2) (N := some 31) (v := ?_) (a' := ?_) #[true, true, true, false, false, false, false] rfl rfl (by kernel_rfl) (fun _ _ _ h => h) (Or.inl ⟨by rfl, ?_⟩) ?_ ?_
  rotate_left
  ·intro w'
   go_simp
   with_reducible rfl
  rotate_left
  ·simp only [Act.put, List.setIfInBounds_toArray, List.set_cons_zero, List.set_cons_succ, zp, zq]
   rfl
  refine zv (i := 4) (N := some 33) (v := ?_) (a' := ?_) #[true, true, true, false, true, false, false] rfl rfl (by kernel_rfl) (fun _ _ _ h => h) (Or.inl ⟨by rfl, ?_⟩) ?_ ?_
  rotate_left
  ·intro w'
   go_simp
   with_reducible rfl
  rotate_left
  ·simp only [Act.put, List.setIfInBounds_toArray, List.set_cons_zero, List.set_cons_succ, zp, zq]
   rfl
  refine take_ (i := 3) (N := some 32) (v := ?_) (a' := ?_) #[true, true, true, true, true, false, false] rfl rfl (by kernel_rfl) (fun _ _ _ h => h) (Or.inl ⟨by rfl, ?_⟩) hHeld ?_ ?_
  rotate_left
  ·rintro w' ⟨s0, s1⟩
   go_simp
   with_reducible rfl
  rotate_left
  ·simp only [Act.put, List.setIfInBounds_toArray, List.set_cons_zero, List.set_cons_succ, zp, zq]
   rfl
  refine take_ (i := 5) (N := some 34) (v := arrV data) (a' := ?_) #[true, true, true, true, true, true, false] rfl rfl (by kernel_rfl) (fun _ _ _ h => h) (Or.inl ⟨by rfl, ?_⟩) hHeld ?_ ?_
  ·rintro w' ⟨s0, s1⟩
   exact run_ldarr (by rfl) (by rfl) s1 HD.out
  rotate_left
  ·simp only [Act.put, List.setIfInBounds_toArray, List.set_cons_zero, List.set_cons_succ, zp, zq]
   rfl
  refine one_ (i := 6) (N := none) #[true, true, true, true, true, true, true] rfl rfl (by kernel_rfl) (by decide) (fun K hK => ?_)
  obtain ⟨w5, hup, hm5, hg5, hs5⟩ := YtjoafknckmoojaaDoorH.run_update (YtjoafknckmoojaaDoorH.int_key Tryd.underlying2) Tryd.underlying243 b data BM4.out
  refine skip_ (w1 := w5) (by rfl) rfl (run_exec_upd (by rfl) (by rfl) (by rfl) (by rfl) hup) ?_
  have BO5 := Aside0.mk (zz BO4.out hg5 (ne_map BO4.out BM4.out))
  refine hK.out _ _ ⟨(ze BO5.out 1).trans rfl, zz hHeld.2 hg5 (ne_map hHeld.2 BM4.out)⟩ (fun hHeld => ?_)
  clear hK K
  refine done_ (by kernel_rfl) ?_
  try go_wp2
  go_end0
  refine ⟨rfl, (.slice A7 ks1.length c7), BO5.out, hm5, ?_, ?_, ?_⟩
  ·exact Kd.R_mono (Kd.R_grown (Kd.R_types' RK4.out BM4.out) hg5 (fun k_ hk_ e_ => hk_.2 (by injection e_))) (fun _ hk_ => hk_.1)
  ·exact pw_below_grown KB4.out (some gm) (Nat.le_trans HBs.out KB4.out.size) hg5 (fun k_ hk_ => by injection hk_ with hk_; exact hk_ ▸ HPM.out)
  ·exact Kept.of_grown hg5 FB4.out (fun k_ hk_ => by injection hk_ with hk_; exact .inl (.inr (.inl hk_.symm)))
theorem run_slice64 {o : Oper} {a : Act} {x : Operand} {w : World} {g : Nat} {l : List Int} (ho : o.op = .slice 123 x none none none) (hx : a.eval x = .pointer (some ⟨g, 0, none⟩)) (hl : l.length = 64) :
  (execOp a.eval o).run Tryd.prog w = .ok (.value (.slice (some ⟨g, 0, none⟩) l.length l.length)) w := by
 obtain ⟨i, hi, hz⟩ := Option.map_eq_some_iff.1 (show (Tryd.prog.info? 5).map (·.size) = some 1 by kernel_rfl)
 unfold execOp
 simp [ho, hx, Instr.sliceAt, Instr.sureAddr, run_underlying Tryd.underlying123, Instr.sliceBounds, sizeOf, typeInfo, hi, Addr.add, hl]
theorem read_arr {w : World} {g T : Nat} {l : List Int} (h : w.heap[g]? = some (.cells (l.map (Value.int .u8)).toArray T (0, 0))) (hl : l.length = 64) : (Kd.int .u8).C w (some ⟨g, 0, none⟩) l.length l :=
 (Kd.R_reads' (YtjoafknckmoojaaDoorH.R_of_arr (Value.int .u8) (fun _ => rfl) (base := 0) (ok := fun _ => True) h (Nat.zero_le _) trivial (by omega) (by omega))).2.2
theorem clone64 {l : List Int} (hl : l.length = 64) : slices_Clone_byte_byte.f l = some l := by
 simp only [slices_Clone_byte_byte.f, Option.bind_some, List.nil_append, List.length_nil]
 rw [if_pos (by omega)]
theorem Plat.drew {W : World} {B s gp : Nat} {dur : List Int} {pend : List S195} {m : List (Int × List Int)} {gy gm : Nat} {vD vP vK : Value} (h : Plat W B s gp dur pend m gy gm vD vP vK) : Plat W.drew B s gp dur pend m gy gm vD vP vK := h.move (fun _ _ _ => rfl) (Nat.le_refl _)
theorem Kd.R_keptSet {α : Type} {d : Kd α} {e B gy gm : Nat} {W w' : World} {ok : Nat → Prop} {v vK : Value} {xs : List α} {m : List (Int × List Int)} {cs : Array Value} {ks : List Int} {okK : Nat → Prop} (h : d.R e W B ok v xs) (hm : YtjoafknckmoojaaDoorH.MapIs (Value.int .i64) arrV W gm m)
  (ho : W.heap[gy]? = some (.cells cs 245 (0, 0))) (rk : (Kd.int .i64).R 2 W B okK vK ks) (ht : ∀ q, q ∈ e :: d.E → q ≠ 245 ∧ q ≠ 2) (hk : Kept W w' (fun k => k = gy ∨ k = gm ∨ some k = vK.ownBlock)) : d.R e w' B ok v xs := by
 refine Kd.R_mono (Kd.R_move (Kd.R_bound h) (fun k hb => ?_)) (fun _ hb => hb.1)
 obtain ⟨_, _, hlt, q, hq, cells, hc⟩ := hb
 refine hk.2 k hlt ?_
 rintro (rfl | rfl | h3)
 ·rw [hc] at ho
  have : q = 245 := by injection ho with ho; injection ho
  exact (ht q hq).1 this
 ·exact ne_map hc hm rfl
 ·obtain ⟨c2, hc2⟩ := Kd.R_typed rk k h3.symm
  rw [hc] at hc2
  have : q = 2 := by injection hc2 with hc2; injection hc2
  exact (ht q hq).2 this
theorem Plat.afterSet {W w' : World} {B s gp : Nat} {dur : List Int} {pend : List S195} {m : List (Int × List Int)} {gy gm : Nat} {vD vP vK vK' : Value} {b : Int} {data : List Int} (h : Plat W B s gp dur pend m gy gm vD vP vK) (hs : s ≤ W.heap.size) (hd : data.length = 64)
  (bo : w'.heap[gy]? = some (.cells #[vK', .map (some gm)] 245 (0, 0))) (bm : YtjoafknckmoojaaDoorH.MapIs (Value.int .i64) arrV w' gm (YtjoafknckmoojaaDoorH.aset m b data)) (rk : (Kd.int .i64).R 2 w' B (fun k => k < s ∨ W.heap.size ≤ k) vK' ((YtjoafknckmoojaaDoorH.aset m b data).map Prod.fst))
  (hk : Kept W w' (fun k => k = gy ∨ k = gm ∨ some k = vK.ownBlock)) : Plat w' B w'.heap.size gp dur pend (YtjoafknckmoojaaDoorH.aset m b data) gy gm vD vP vK' where
 bp := (hk.2 gp (zw h.bp) (by
  rintro (e | e | e)
  ·have h1 := h.bp
   rw [e, h.bo] at h1
   injection h1 with h1; injection h1 with _ h1; exact absurd h1 (by decide)
  ·exact ne_map h.bp h.bm (by rw [e])
  ·obtain ⟨c2, hc2⟩ := Kd.R_typed h.rk gp e.symm
   rw [h.bp] at hc2
   injection hc2 with hc2; injection hc2 with _ hc2; exact absurd hc2 (by decide))).trans h.bp
 bo := bo
 bm := bm
 rd := Kd.R_mono (Kd.R_keptSet h.rd h.bm h.bo h.rk (by decide) hk) (fun k hk_ => by have := hk.1; omega)
 rp := Kd.R_mono (Kd.R_keptSet h.rp h.bm h.bo h.rk (by decide) hk) (fun k hk_ => ⟨by have := hk.1; have := hk_.1; omega, hk_.2⟩)
 rk := Kd.R_mono (Kd.R_bound rk) (fun k hk_ => hk_.2.2.1)
 pp := ⟨h.pp.1, by have := hk.1; have := h.pp.2; omega⟩
 po := ⟨h.po.1, by have := hk.1; have := h.po.2; omega⟩
 pm := ⟨h.pm.1, by have := hk.1; have := h.pm.2; omega⟩
 m64 := aset_64 h.m64 b hd
theorem keptSet_to {W w' : World} {B s gp : Nat} {dur : List Int} {pend : List S195} {m : List (Int × List Int)} {gy gm : Nat} {vD vP vK : Value} (h : Plat W B s gp dur pend m gy gm vD vP vK) (hk : Kept W w' (fun k => k = gy ∨ k = gm ∨ some k = vK.ownBlock)) : Kept W w' (fun k => B ≤ k ∧ k < s) :=
 hk.mono (by
  rintro k (rfl | rfl | e)
  ·exact h.po
  ·exact h.pm
  ·exact ⟨Kd.R_base h.rk k e.symm, h.rk.1 k e.symm⟩)
theorem infoWr_ : (Tryd.prog.info? 195).map (fun i => (i.zero, i.size, i.bytes)) = some (some (.agg #[(.int .i64 0), (.slice none 0 0)]), 2, 32) := by kernel_rfl
set_option maxHeartbeats 4000000 in
set_option maxRecDepth 100000 in
theorem write_c (W : World) (B s gp : Nat) (dur : List Int) (pend : List S195) (m : List (Int × List Int)) (gy gm : Nat) (vD vP vK : Value) (b : Int) (data : List Int) (hd : data.length = 64) (hP : Plat W B s gp dur pend m gy gm vD vP vK) (hB : B ≤ W.heap.size) (hs : s ≤ W.heap.size) (hl : m.length ≤ 1000000) (hl2 : pend.length ≤ 1000000) :
  Calls Tryd.prog 83 #[.pointer (some ⟨gp, 0, none⟩), .int .i64 b, arrV data] W fun e w' => e = .returned (.tuple #[]) ∧ ∃ vP' vK', Plat w' B w'.heap.size gp dur (pend ++ [⟨b, data⟩]) (YtjoafknckmoojaaDoorH.aset m b data) gy gm vD vP' vK' ∧ Below B W w' ∧ Kept W w' (fun k => B ≤ k ∧ k < s) := by
 have HD := Aside0.mk hd
 have HP := Aside0.mk hP
 have HBs := Aside0.mk hB
 have HSs := Aside0.mk hs
 have HL := Aside0.mk hl
 have HL2 := Aside0.mk hl2
 clear hd hP hB hs hl hl2
 go_enter Tryd.func83, Tryd.ntmps83
 go_wp2_with (first | ((with_reducible refine zr (N := 5) rfl ?_); refine Go.Proofs.YtjoafknckmoojaaDoorH.box_arr (cs := (data.map (Value.int .u8)).toArray) rfl (t := 123) rfl (N := 5) rfl rfl ?_; intro g5 hg5 w1 hA5 hb1; have HP1 := Aside0.mk (HP.out.below HSs.out hb1); have HA5 := Aside0.mk hA5; have HG5 := Aside0.mk hg5; have HB1 := Aside0.mk hb1; clear hA5 hg5 hb1))
 refine start_ (n := 7) (S := fun w' => w'.cell? ⟨gp, 2, none⟩ = some (.pointer (some ⟨gy, 0, none⟩)) ∧ w'.heap[g5]? = some (.cells (data.map (Value.int .u8)).toArray 123 (0, 0))) (ds := []) #[false, false, false, false, false, false, false] (by kernel_rfl) rfl rfl ⟨(ze HP1.out.drew.bp 2).trans rfl, zl HA5.out⟩ (fun hHeld => ?_)
 have HP2 := Aside0.mk HP1.out.drew; have HA52 := Aside0.mk (zl HA5.out); have KB2 := Aside0.mk (below_drew HB1.out); generalize w1.drew = w2 at HP2 HA52 KB2 hHeld ⊢
 refine zv (i := 0) (N := some 6) (v := ?_) (a' := ?_) #[true, false, false, false, false, false, false] rfl rfl (by kernel_rfl) (fun _ _ _ h => h) (Or.inl ⟨by rfl, ?_⟩) ?_ ?_
 rotate_left
 ·intro w'
  go_simp
  with_reducible rfl
 rotate_left
 ·simp only [Act.put, List.setIfInBounds_toArray, List.set_cons_zero, List.set_cons_succ, zp, zq]
  rfl
 refine zv (i := 1) (N := some 7) (v := ?_) (a' := ?_) #[true, true, false, false, false, false, false] rfl rfl (by kernel_rfl) (fun _ _ _ h => h) (Or.inl ⟨by rfl, ?_⟩) ?_ ?_
 rotate_left
 ·intro w'
  go_simp
  with_reducible rfl
 rotate_left
 ·simp only [Act.put, List.setIfInBounds_toArray, List.set_cons_zero, List.set_cons_succ, zp, zq]
  rfl
 refine zv (i := 2) (N := some 8) (v := ?_) (a' := ?_) #[true, true, true, false, false, false, false] rfl rfl (by kernel_rfl) (fun _ _ _ h => h) (Or.inl ⟨by rfl, ?_⟩) ?_ ?_
 rotate_left
 ·intro w'
  go_simp
  with_reducible rfl
 rotate_left
 ·simp only [Act.put, List.setIfInBounds_toArray, List.set_cons_zero, List.set_cons_succ, zp, zq]
  rfl
 refine zv (i := 4) (N := some 10) (v := ?_) (a' := ?_) #[true, true, true, false, true, false, false] rfl rfl (by kernel_rfl) (fun _ _ _ h => h) (Or.inl ⟨by rfl, ?_⟩) ?_ ?_
 rotate_left
 ·intro w'
  go_simp
  with_reducible rfl
 rotate_left
 ·simp only [Act.put, List.setIfInBounds_toArray, List.set_cons_zero, List.set_cons_succ, zp, zq]
  rfl
 refine take_ (i := 3) (N := some 9) (v := ?_) (a' := ?_) #[true, true, true, true, true, false, false] rfl rfl (by kernel_rfl) (fun _ _ _ h => h) (Or.inl ⟨by rfl, ?_⟩) hHeld ?_ ?_
 rotate_left
 ·rintro w' ⟨s0, s1⟩
  go_simp
  with_reducible rfl
 rotate_left
 ·simp only [Act.put, List.setIfInBounds_toArray, List.set_cons_zero, List.set_cons_succ, zp, zq]
  rfl
 refine take_ (i := 5) (N := some 11) (v := arrV data) (a' := ?_) #[true, true, true, true, true, true, false] rfl rfl (by kernel_rfl) (fun _ _ _ h => h) (Or.inl ⟨by rfl, ?_⟩) hHeld ?_ ?_
 ·rintro w' ⟨s0, s1⟩
  exact run_ldarr (by rfl) (by rfl) s1 HD.out
 rotate_left
 ·simp only [Act.put, List.setIfInBounds_toArray, List.set_cons_zero, List.set_cons_succ, zp, zq]
  rfl
 refine one_ (i := 6) (N := some 12) #[true, true, true, true, true, true, true] rfl rfl (by kernel_rfl) (by decide) (fun K hK => ?_)
 refine goes_ Tryd.func145 (by kernel_rfl) rfl #[.pointer (some ⟨gy, 0, none⟩), .int .i64 b, arrV data] (by rfl) rfl rfl (by (try simp only [List.map_toArray, List.map_cons, List.map_nil]); first | done | rfl) ?_
 refine (set_c w2 B s gy gm vK m b data HD.out HP2.out.bo HP2.out.bm HP2.out.m64 HP2.out.rk HP2.out.po.1 HP2.out.pm.1 (Nat.le_trans HBs.out KB2.out.size) (Nat.le_trans HSs.out KB2.out.size) HL.out).mono ?_
 rintro e w3 ⟨rfl, vK3, bo3, bm3, rk3, hb3, hk3⟩
 refine ⟨_, rfl, ?_⟩
 have HP3 := Aside0.mk (HP2.out.afterSet (Nat.le_trans HSs.out KB2.out.size) HD.out bo3 bm3 rk3 hk3)
 have hn5 : s ≤ g5 := by rw [HG5.out]; exact HSs.out
 have FB3 := Aside0.mk (keptSet_to HP2.out hk3)
 have HA53 := Aside0.mk ((FB3.out.2 g5 (zw HA52.out) (fun h_ => by omega)).trans HA52.out)
 have KB3 := Aside0.mk ((below_base KB2.out HBs.out).trans hb3)
 have FK3 : Aside0 (Kept W w3 (fun k => B ≤ k ∧ k < s)) := ⟨(Kept.of_below KB2.out _).then_ FB3.out (fun _ h_ => .inl h_)⟩
 have hs3 : W.heap.size ≤ w3.heap.size := Nat.le_trans KB2.out.size FB3.out.1
 have HS3 := Aside0.mk hs3
 clear bo3 bm3 rk3 hb3 hk3 hn5 hs3
 refine hK.out _ _ ⟨(ze HP3.out.bp 2).trans rfl, HA53.out⟩ (fun hHeld => ?_)
 clear hK K
 refine norm_ (a' := ?_) ?_ ?_
 rotate_left
 ·show Act.put _ (some 12) _ = _
  simp only [Act.put, List.setIfInBounds_toArray, List.set_cons_zero, List.set_cons_succ, zp, zq]
  rfl
 refine done_ (by kernel_rfl) ?_
 try go_wp2
 refine start_ (n := 14) (S := fun w' => w'.cell? ⟨gp, 1, none⟩ = some vP) (ds := [13]) #[false, false, false, false, false, false, false, false, false, false, false, false, false, false] (by kernel_rfl) rfl rfl ((ze HP3.out.drew.bp 1).trans rfl) (fun hHeld => ?_)
 have HP4 := Aside0.mk HP3.out.drew; have HA54 := Aside0.mk (zl HA53.out); have KB4 := Aside0.mk (below_drew KB3.out); have FK4 := Aside0.mk (Kept.drew FK3.out); have hs4 : w3.heap.size ≤ w3.drew.heap.size := Nat.le_refl _; have HS4 := Aside0.mk hs4; clear hs4; generalize w3.drew = w4 at HP4 HA54 KB4 FK4 HS4 hHeld ⊢
 refine zv (i := 0) (N := some 13) (v := ?_) (a' := ?_) #[true, false, false, false, false, false, false, false, false, false, false, false, false, false] rfl rfl (by kernel_rfl) (fun _ _ _ h => h) (Or.inl ⟨by rfl, ?_⟩) ?_ ?_
 rotate_left
 ·intro w'
  go_simp
  with_reducible rfl
 rotate_left
 ·simp only [Act.put, List.setIfInBounds_toArray, List.set_cons_zero, List.set_cons_succ, zp, zq]
  rfl
 refine zv (i := 1) (N := some 14) (v := ?_) (a' := ?_) #[true, true, false, false, false, false, false, false, false, false, false, false, false, false] rfl rfl (by kernel_rfl) (fun _ _ _ h => h) (Or.inl ⟨by rfl, ?_⟩) ?_ ?_
 rotate_left
 ·intro w'
  go_simp
  with_reducible rfl
 rotate_left
 ·simp only [Act.put, List.setIfInBounds_toArray, List.set_cons_zero, List.set_cons_succ, zp, zq]
  rfl
 refine zv (i := 2) (N := some 15) (v := ?_) (a' := ?_) #[true, true, true, false, false, false, false, false, false, false, false, false, false, false] rfl rfl (by kernel_rfl) (fun _ _ _ h => h) (Or.inl ⟨by rfl, ?_⟩) ?_ ?_
 rotate_left
 ·intro w'
  go_simp
  with_reducible rfl
 rotate_left
 ·simp only [Act.put, List.setIfInBounds_toArray, List.set_cons_zero, List.set_cons_succ, zp, zq]
  rfl
 refine zv (i := 3) (N := some 16) (v := ?_) (a' := ?_) #[true, true, true, true, false, false, false, false, false, false, false, false, false, false] rfl rfl (by kernel_rfl) (fun _ _ _ h => h) (Or.inl ⟨by rfl, ?_⟩) ?_ ?_
 rotate_left
 ·intro w'
  go_simp
  with_reducible rfl
 rotate_left
 ·simp only [Act.put, List.setIfInBounds_toArray, List.set_cons_zero, List.set_cons_succ, zp, zq]
  rfl
 refine zv (i := 5) (N := some 18) (v := ?_) (a' := ?_) #[true, true, true, true, false, true, false, false, false, false, false, false, false, false] rfl rfl (by kernel_rfl) (fun _ _ _ h => h) (Or.inl ⟨by rfl, ?_⟩) ?_ ?_
 rotate_left
 ·intro w'
  go_simp
  with_reducible rfl
 rotate_left
 ·simp only [Act.put, List.setIfInBounds_toArray, List.set_cons_zero, List.set_cons_succ, zp, zq]
  rfl
 refine zv (i := 6) (N := some 19) (v := .slice (some ⟨g5, 0, none⟩) data.length data.length) (a' := ?_) #[true, true, true, true, false, true, true, false, false, false, false, false, false, false] rfl rfl (by kernel_rfl) (fun _ _ _ h => h) (Or.inl ⟨by rfl, ?_⟩) ?_ ?_
 ·intro w'
  exact run_slice64 (by rfl) (by rfl) HD.out
 rotate_left
 ·simp only [Act.put, List.setIfInBounds_toArray, List.set_cons_zero, List.set_cons_succ, zp, zq]
  rfl
 refine take_ (i := 4) (N := some 17) (v := ?_) (a' := ?_) #[true, true, true, true, true, true, true, false, false, false, false, false, false, false] rfl rfl (by kernel_rfl) (fun _ _ _ h => h) (Or.inl ⟨by rfl, ?_⟩) hHeld ?_ ?_
 rotate_left
 ·intro w' s0
  go_simp
  with_reducible rfl
 rotate_left
 ·simp only [Act.put, List.setIfInBounds_toArray, List.set_cons_zero, List.set_cons_succ, zp, zq]
  rfl
 refine one_ (i := 7) (N := some 20) #[true, true, true, true, true, true, true, true, false, false, false, false, false, false] rfl rfl (by kernel_rfl) (by decide) (fun K hK => ?_)
 refine goes_ Tryd.func143 (by kernel_rfl) rfl #[.slice (some ⟨g5, 0, none⟩) data.length data.length] (by rfl) rfl rfl (by (try simp only [List.map_toArray, List.map_cons, List.map_nil]); first | done | rfl) ?_
 refine (slices_Clone_byte_byte.calls (some ⟨g5, 0, none⟩) data.length data data w4 (read_arr HA54.out HD.out) (Nat.le_refl _) (clone64 HD.out)).mono ?_
 rintro e w5 ⟨v20, rfl, zB, hb5⟩
 obtain ⟨A20, c20, e20⟩ := Kd.R_slice zB
 subst e20
 refine ⟨_, rfl, ?_⟩
 have HP5 := Aside0.mk (HP4.out.below HS4.out hb5)
 have zC := Aside0.mk zB
 have HB5 := Aside0.mk hb5
 clear zB hb5
 refine hK.out _ _ ((ze HP5.out.bp 1).trans rfl) (fun hHeld => ?_)
 clear hK K
 refine norm_ (a' := ?_) ?_ ?_
 rotate_left
 ·show Act.put _ (some 20) _ = _
  simp only [Act.put, List.setIfInBounds_toArray, List.set_cons_zero, List.set_cons_succ, zp, zq]
  rfl
 refine zv (i := 8) (N := some 21) (v := ?_) (a' := ?_) #[true, true, true, true, true, true, true, true, true, false, false, false, false, false] rfl rfl (by kernel_rfl) (fun _ _ _ h => h) (Or.inl ⟨by rfl, ?_⟩) ?_ ?_
 rotate_left
 ·intro w'
  go_simp
  with_reducible rfl
 rotate_left
 ·simp only [Act.put, List.setIfInBounds_toArray, List.set_cons_zero, List.set_cons_succ, zp, zq]
  rfl
 refine one_ (i := 9) (N := some 22) #[true, true, true, true, true, true, true, true, true, true, false, false, false, false] rfl rfl (by kernel_rfl) (by decide) (fun K hK => ?_)
 refine value_ (w1 := ?_) (v := ?_) (by rfl) rfl ?_ ?_
 rotate_left 2
 ·go_simp
  constructor
  ·rfl
  ·rfl
 refine hK.out _ _ ((ze (zi HP5.out.bp _) 1).trans rfl) (fun hHeld => ?_)
 clear hK K
 refine norm_ (a' := ?_) ?_ ?_
 rotate_left
 ·show Act.put _ (some 22) _ = _
  simp only [Act.put, List.setIfInBounds_toArray, List.set_cons_zero, List.set_cons_succ, zp, zq]
  rfl
 refine one_ (i := 10) (N := some 23) #[true, true, true, true, true, true, true, true, true, true, true, false, false, false] rfl rfl (by kernel_rfl) (by decide) (fun K hK => ?_)
 refine Kd.R_append_step k195 (w0 := W) B (by rfl) (.tmp 17) (.tmp 22) 45 195 (.agg #[(.int .i64 0), (.slice none 0 0)]) 32 rfl Tryd.underlying45 infoWr_ rfl (by decide) (by omega) vP pend ⟨b, data⟩ [.int .i64 b, .slice A20 data.length c20] (fun k => (k < w3.heap.size ∨ w4.heap.size ≤ k) ∧ some k ≠ vD.ownBlock) (fun k => w4.heap.size ≤ k) rfl rfl ?aP ?aQ ?aF ?aO ?aB ?aS ?aL ?_
 (case aP => exact k195_mkM _ _ _ _ (Kd.R_lower (Kd.R_mono (Kd.R_bound zC.out) (fun k_ hk_ => hk_.2.1)) (Nat.le_trans HBs.out (Nat.le_trans HS3.out HS4.out))))
 (case aQ => exact (fun k_ hk_ => ⟨⟨.inr hk_, fun e_ => by have h1_ := Kd.R_lt HP4.out.rd k_ e_.symm; omega⟩, fun e_ => by have h1_ := Kd.R_lt HP4.out.rp k_ e_.symm; omega⟩))
 (case aF => exact (fun k_ hk_ => ⟨.inr (Nat.le_trans HB5.out.size hk_), fun e_ => by have h1_ := Kd.R_lt HP5.out.rd k_ e_.symm; omega⟩))
 (case aO => exact (Kd.R_mono HP5.out.rp (fun k_ hk_ => ⟨.inl hk_.1, hk_.2⟩)))
 (case aB => exact (below_then KB4.out (Nat.le_trans HBs.out (Nat.le_trans HS3.out HS4.out)) HB5.out))
 (case aS => exact Nat.le_trans HBs.out (Nat.le_trans HS3.out (Nat.le_trans HS4.out HB5.out.size)))
 (case aL => have := HL2.out; omega)
 intro vP6 w6 zA hb6 hg6 hat6
 obtain ⟨pn, hpn⟩ : ∃ p_, p_ = pend ++ [(⟨b, data⟩ : S195)] := ⟨_, rfl⟩
 rw [← hpn] at zA
 have HPN := Aside0.mk hpn
 clear hpn
 obtain ⟨A6, c6, e6⟩ := Kd.R_slice zA
 subst e6
 have hnp : some gp ≠ vP.ownBlock := Kd.R_ne HP5.out.rp HP5.out.bp (by decide)
 have BP6 := Aside0.mk (zz HP5.out.bp hg6 hnp)
 have hc6 : w6.cell? ⟨gp, 1, none⟩ = some vP := (ze BP6.out 1).trans rfl
 have hf6 := zg BP6.out 1
 have zD := Aside0.mk zA
 have HB6 := Aside0.mk hb6
 have HG6 := Aside0.mk hg6
 clear zA hb6 hg6 hat6 hnp
 refine hK.out _ _ hc6 (fun hHeld => ?_)
 clear hK K
 refine norm_ (a' := ?_) ?_ ?_
 rotate_left
 ·show Act.put _ (some 23) _ = _
  simp only [Act.put, List.setIfInBounds_toArray, List.set_cons_zero, List.set_cons_succ, zp, zq]
  rfl
 refine zv (i := 11) (N := some 24) (v := ?_) (a' := ?_) #[true, true, true, true, true, true, true, true, true, true, true, true, false, false] rfl rfl (by kernel_rfl) (fun _ _ _ h => h) (Or.inl ⟨by rfl, ?_⟩) ?_ ?_
 rotate_left
 ·intro w'
  go_simp
  with_reducible rfl
 rotate_left
 ·simp only [Act.put, List.setIfInBounds_toArray, List.set_cons_zero, List.set_cons_succ, zp, zq]
  rfl
 refine zv (i := 12) (N := some 25) (v := ?_) (a' := ?_) #[true, true, true, true, true, true, true, true, true, true, true, true, true, false] rfl rfl (by kernel_rfl) (fun _ _ _ h => h) (Or.inl ⟨by rfl, ?_⟩) ?_ ?_
 rotate_left
 ·intro w'
  go_simp
  with_reducible rfl
 rotate_left
 ·simp only [Act.put, List.setIfInBounds_toArray, List.set_cons_zero, List.set_cons_succ, zp, zq]
  rfl
 refine last_ (i := 13) (N := none) #[true, true, true, true, true, true, true, true, true, true, true, true, true, true] rfl rfl (by kernel_rfl) (by decide) (fun K hK => ?_)
 refine skip_ (w1 := w6.setCell ⟨gp, 1, none⟩ (.slice A6 pn.length c6)) (by rfl) rfl ?_ ?_
 ·go_simp
 refine hK.out _ _ ?_
 clear hK K
 refine done_ (by kernel_rfl) ?_
 try go_wp2
 go_end0
 have hP5 := HP5.out
 have hgp : ∀ k, k ≠ gp → some k ≠ vP.ownBlock → k < w5.heap.size → (w6.setCell ⟨gp, 1, none⟩ (.slice A6 pn.length c6)).heap[k]? = w5.heap[k]? := fun k h1 h2 h3 => (Below.heap_setCell w6 ⟨gp, 1, none⟩ _ k h1).trans (HG6.out.block k h3 h2)
 have hsz : w5.heap.size ≤ (w6.setCell ⟨gp, 1, none⟩ (.slice A6 pn.length c6)).heap.size := by have := HG6.out.size; simpa using this
 have hs34 : w3.heap.size ≤ w5.heap.size := Nat.le_trans HS4.out HB5.out.size
 have typed : ∀ k q cells, w5.heap[k]? = some (.cells cells q (0, 0)) → q ≠ 193 → k ≠ gp := fun k q cells hc hq e_ => by
  rw [e_, hP5.bp] at hc; injection hc with hc; injection hc with _ hc; exact hq hc.symm
 have wrT : ∀ k q cells, w5.heap[k]? = some (.cells cells q (0, 0)) → q ≠ 195 → some k ≠ vP.ownBlock := fun k q cells hc hq e_ => by
  obtain ⟨c2, hc2⟩ := Kd.R_typed hP5.rp k e_.symm
  rw [hc] at hc2; injection hc2 with hc2; injection hc2 with _ hc2; exact hq hc2
 refine ⟨rfl, .slice A6 pn.length c6, vK3, ⟨?_, ?_, ?_, ?_, ?_, ?_, ?_, ?_, ?_, hP5.m64⟩, ?_, ?_⟩
 ·exact zy BP6.out 1 _ rfl
 ·exact (hgp _ (typed _ _ _ hP5.bo (by decide)) (wrT _ _ _ hP5.bo (by decide)) (zw hP5.bo)).trans hP5.bo
 ·exact hP5.bm.move (hgp _ (fun e_ => ne_map hP5.bp hP5.bm (by rw [e_])) (fun e_ => by obtain ⟨c2, hc2⟩ := Kd.R_typed hP5.rp gm e_.symm; exact ne_map hc2 hP5.bm rfl) hP5.bm.lt)
 ·refine Kd.R_mono (Kd.R_move (Kd.R_bound hP5.rd) (fun k hk => ?_)) (fun k hk => by have := hk.1; omega)
  obtain ⟨_, _, hlt, q, hq, cells, hc⟩ := hk
  have hq' : q = 5 := by simpa using (show q ∈ [5] from hq)
  subst hq'
  exact hgp k (typed _ _ _ hc (by decide)) (wrT _ _ _ hc (by decide)) hlt
 ·rw [← HPN.out]
  refine Kd.R_mono (Kd.R_bound (Kd.R_set zD.out BP6.out (by decide) 1 _)) (fun k hk => ⟨?_, hk.1.2⟩)
  exact hk.2.2.1
 ·refine Kd.R_mono (Kd.R_move (Kd.R_bound hP5.rk) (fun k hk => ?_)) (fun k hk => by have := hk.1; omega)
  obtain ⟨_, _, hlt, q, hq, cells, hc⟩ := hk
  have hq' : q = 2 := by simpa using (show q ∈ [2] from hq)
  subst hq'
  exact hgp k (typed _ _ _ hc (by decide)) (wrT _ _ _ hc (by decide)) hlt
 ·exact ⟨hP5.pp.1, by have := hP5.pp.2; omega⟩
 ·exact ⟨hP5.po.1, by have := hP5.po.2; omega⟩
 ·exact ⟨hP5.pm.1, by have := hP5.pm.2; omega⟩
 ·exact Below.setCell HB6.out hP5.pp.1 _
 ·have hgpS : B ≤ gp ∧ gp < s := HP.out.pp
  have hk5 : Kept W w5 (fun k => B ≤ k ∧ k < s) := FK4.out.below HB5.out
  refine Kept.setCell (Kept.of_grown HG6.out hk5 (fun k_ hk_ => ?_)) (.inl hgpS) _
  exact .inl ⟨Kd.R_base HP.out.rp k_ hk_, (HP.out.rp.1 k_ hk_).1⟩
set_option maxHeartbeats 4000000 in
set_option maxRecDepth 100000 in
theorem place_c (W : World) (B s gp : Nat) (dur : List Int) (pend : List S195) (m : List (Int × List Int)) (gy gm : Nat) (vD vP vK : Value) (b : Nat) (hP : Plat W B s gp dur pend m gy gm vD vP vK) (hb : 64 * b + 64 ≤ dur.length) (hl : dur.length ≤ 100000000) :
  Calls Tryd.prog 148 #[.pointer (some ⟨gp, 0, none⟩), .int .i64 b] W fun e w' => ∃ gD cap, vD = .slice (some ⟨gD, 0, none⟩) dur.length cap ∧ dur.length ≤ cap ∧ e = .returned (.slice (some ⟨gD, 64 * b, none⟩) 64 (cap - 64 * b)) ∧ W = w' := by
 obtain ⟨gD, cap, hvD, _, _, _⟩ := Kd.R_form hP.rd (by omega)
 subst hvD
 have hcap := (Kd.R_reads' hP.rd).2.1
 have hc : W.cell? ⟨gp, 0, none⟩ = some (.slice (some ⟨gD, 0, none⟩) dur.length cap) := (ze hP.bp 0).trans rfl
 obtain ⟨i0, hi0, hz0⟩ := Option.map_eq_some_iff.1 (show (Tryd.prog.info? 5).map (·.size) = some 1 by kernel_rfl)
 have hcut := cut_mid (P := Tryd.prog) 22 5 .i64 .i64 Tryd.underlying22 hi0 1 hz0 (some ⟨gD, 0, none⟩) dur.length cap ((b : Int) * 64) (((b : Int) + 1) * 64) (by omega) (by omega) (by omega) hcap
 have e1 : ((b : Int) * 64).toNat = 64 * b := by omega
 have e2 : (((b : Int) + 1) * 64).toNat = 64 * b + 64 := by omega
 rw [e1, e2, if_neg (by omega), Option.map_some, Nat.mul_one, add_plain, show 64 * b + 64 - 64 * b = 64 by omega] at hcut
 have h1 : (0 : Int) ≤ (b : Int) := by omega
 have h2 : (b : Int) ≤ 100000000 := by omega
 have HCAP := Aside0.mk hcap
 clear e1 e2 hi0 hz0 hP hb hl hcap
 go_enter Tryd.func148, Tryd.ntmps148
 go_wp2
 go_ret
 exact ⟨gD, cap, rfl, HCAP.out, rfl, rfl⟩
theorem run_toarr {o : Oper} {a : Act} {x : Operand} {w : World} {A : Option Addr} {m c : Nat} (ho : o.op = .sliceToArrayPointer 123 x) (hx : a.eval x = .slice A m c) (hm : 64 ≤ m) : (execOp a.eval o).run Tryd.prog w = .ok (.value (.pointer A)) w := by
 unfold execOp
 simp [ho, hx, Instr.arrayAt, run_underlying Tryd.underlying123, show ¬ m < 64 by omega]
theorem run_ldC {o : Oper} {a : Act} {x : Operand} {W : World} {A : Option Addr} {xs : List Int} (ho : o.op = .load 123 x) (hx : a.eval x = .pointer A) (hl : xs.length = 64) (hr : (Kd.int .u8).C W A xs.length xs) : (execOp a.eval o).run Tryd.prog W = .ok (.value (arrV xs)) W := by
 obtain ⟨_, _, hr3⟩ := hr
 obtain ⟨ad, rfl, hr4⟩ := hr3 (by omega)
 have hl2 : (loadCells ad (xs.map (Value.int .u8)).length).run Tryd.prog W = .ok (xs.map (Value.int .u8)).toArray W := by
  refine run_loadCells_list (P := Tryd.prog) W ad _ (fun j v hv => ?_)
  rw [List.getElem?_map] at hv
  obtain ⟨y, hy, rfl⟩ := Option.map_eq_some_iff.mp hv
  obtain ⟨c, _, hc, hcc⟩ := hr4 j y hy
  have hc' : c = [Value.int .u8 y] := hc
  subst hc'
  have := hcc 0 (Value.int .u8 y) rfl
  simpa [Kd.int, Kd.scalar] using this
 obtain ⟨i, hi, hz⟩ := Option.map_eq_some_iff.1 (show (Tryd.prog.info? 123).map (·.size) = some 64 by kernel_rfl)
 have hagg : (isAgg 123).run Tryd.prog W = .ok true W := by
  unfold isAgg
  simp [run_underlying Tryd.underlying123]
 rw [List.length_map, hl] at hl2
 unfold execOp
 simp [ho, hx, Instr.loadAt, Instr.sureAddr, loadVar, hagg, sizeOf, typeInfo, hi, hz, hl2, arrV]
theorem cloneAny {l : List Int} (hl : l.length ≤ 100000000) : slices_Clone_byte_byte.f l = some l := by
 simp only [slices_Clone_byte_byte.f, Option.bind_some, List.nil_append, List.length_nil]
 rw [if_pos (by omega)]
def yng (l : List S195) : List (Int × List Int) := l.foldl (fun m p => YtjoafknckmoojaaDoorH.aset m p.f0 p.f1) []
theorem aset_len (m : List (Int × List Int)) (b : Int) (d : List Int) : (YtjoafknckmoojaaDoorH.aset m b d).length ≤ m.length + 1 := by
 induction m with
 | nil => simp [YtjoafknckmoojaaDoorH.aset]
 | cons q m ih =>
  obtain ⟨k, v⟩ := q
  simp only [YtjoafknckmoojaaDoorH.aset]
  by_cases c : k = b
  ·rw [if_pos c]; simp
  ·rw [if_neg c]; simp only [List.length_cons]; omega
theorem yng_snoc (l : List S195) (p : S195) : yng (l ++ [p]) = YtjoafknckmoojaaDoorH.aset (yng l) p.f0 p.f1 := by simp [yng]
theorem yng_len (l : List S195) : (yng l).length ≤ l.length := by
 suffices h : ∀ (l : List S195) (m : List (Int × List Int)), (l.foldl (fun m p => YtjoafknckmoojaaDoorH.aset m p.f0 p.f1) m).length ≤ m.length + l.length by
  have := h l []; simpa [yng] using this
 intro l
 induction l with
 | nil => intro m; simp
 | cons p l ih => intro m; simp only [List.foldl_cons, List.length_cons]; have := ih (YtjoafknckmoojaaDoorH.aset m p.f0 p.f1); have := aset_len m p.f0 p.f1; omega
theorem take_rd {l : List S195} {i : Nat} (h : i < l.length) : l.take (i + 1) = l.take i ++ [rd_T195 l (i : Int)] := by
 rw [List.take_add_one, List.getElem?_eq_getElem h]
 unfold rd_T195
 simp [h]
set_option maxHeartbeats 4000000 in
set_option maxRecDepth 100000 in
theorem spin_c (W : World) (A0 : Option Addr) (c0 : Nat) (dur : List Int) (A1 : Option Addr) (c1 : Nat) (pend : List S195) (hr0 : Kd.C (Kd.int .u8) W A0 dur.length dur) (hc0 : dur.length ≤ c0) (hr1 : Kd.C k195 W A1 pend.length pend) (hc1 : pend.length ≤ c1)
  (hv : ∀ i : Nat, i < pend.length → (rd_T195 pend (i : Int)).f1.length = 64) (hdl : dur.length ≤ 100000000) (hpl : pend.length ≤ 1000000) :
  Calls Tryd.prog 79 #[.agg #[.slice A0 dur.length c0, .slice A1 pend.length c1]] W fun e w' => ∃ gp gy gm vD vP vK, e = .returned (.pointer (some ⟨gp, 0, none⟩)) ∧ Plat w' W.heap.size w'.heap.size gp dur pend (yng pend) gy gm vD vP vK ∧ Below W.heap.size W w' := by
 have HR0 := Aside0.mk hr0
 have HC0 := Aside0.mk hc0
 have HR1 := Aside0.mk hr1
 have HC1 := Aside0.mk hc1
 have HV := Aside0.mk hv
 have HDL := Aside0.mk hdl
 have HPL := Aside0.mk hpl
 clear hr0 hc0 hr1 hc1 hv hdl hpl
 go_enter Tryd.func79, Tryd.ntmps79
 go_wp2_with (first | ((with_reducible refine zr (N := 1) rfl ?_); refine Go.Proofs.YtjoafknckmoojaaDoorH.box_arr (cs := #[.slice A0 dur.length c0, .slice A1 pend.length c1]) rfl (t := 47) rfl (N := 1) rfl rfl ?_; intro g1 hg1 w1 hA1 hb1; have HA1 := Aside0.mk hA1; have HB1 := Aside0.mk hb1; have HG1 := Aside0.mk hg1; have hc10 : w1.cell? ⟨g1, 0, none⟩ = some (.slice A0 dur.length c0) := (ze HA1.out 0).trans rfl; clear hA1 hb1 hg1) | ((with_reducible refine zn (f := 143) rfl ?_); refine zx (some 8) rfl rfl Tryd.func143 (by kernel_rfl) rfl #[.slice A0 dur.length c0] rfl (by (try simp only [List.map_toArray, List.map_cons, List.map_nil]); first | done | rfl) ?_; refine (slices_Clone_byte_byte.calls A0 c0 dur dur w1 (Kd.C_below HR0.out HB1.out) HC0.out (cloneAny HDL.out)).mono ?_; rintro e w2 ⟨vD, rfl, zA, hb2⟩; obtain ⟨AD, cD, eD⟩ := Kd.R_slice zA; subst eD; refine ⟨_, rfl, ?_⟩; have zC := Aside0.mk zA; have HA12 := Aside0.mk ((hb2.block _ (zw HA1.out)).trans HA1.out); have HB2 := Aside0.mk (zm HB1.out hb2); have HS12 := Aside0.mk HB1.out.size; have HS2 := Aside0.mk hb2.size; clear zA hb2 hc10) | ((with_reducible refine zn (f := 144) rfl ?_); refine zx (some 9) rfl rfl Tryd.func144 (by kernel_rfl) rfl #[] rfl (by (try simp only [List.map_toArray, List.map_cons, List.map_nil]); first | done | rfl) ?_; refine (newOrd_c w2).mono ?_; rintro e w3 ⟨gy, gm, rfl, hgy, hgm, bo, bm, hb3⟩; refine ⟨_, rfl, ?_⟩; have zB := Aside0.mk (Kd.R_below zC.out hb3); have HA13 := Aside0.mk ((hb3.block _ (zw HA12.out)).trans HA12.out); have HB3 := Aside0.mk (zm HB2.out hb3); have BO3 := Aside0.mk bo; have BM3 := Aside0.mk bm; have HGY := Aside0.mk (Nat.le_trans HB2.out.size hgy); have HGM := Aside0.mk (Nat.le_trans HB2.out.size hgm); clear hb3 bo bm hgy hgm) | ((with_reducible refine zr (N := 11) rfl ?_); refine Go.Proofs.YtjoafknckmoojaaDoorH.box_arr (cs := #[.slice AD dur.length cD, .slice none 0 0, .pointer (some ⟨gy, 0, none⟩)]) rfl (t := 193) rfl (N := 11) rfl rfl ?_; intro gp hgp w4 hA4 hb4; have BP4 := Aside0.mk hA4; have HGP := Aside0.mk hgp; have HB4 := Aside0.mk (zm HB3.out hb4); have HB34 := Aside0.mk hb4; have HA14 := Aside0.mk ((hb4.block _ (zw HA13.out)).trans HA13.out); have hc11 : w4.cell? ⟨g1, 1, none⟩ = some (.slice A1 pend.length c1) := (ze HA14.out 1).trans rfl; clear hA4 hb4 hgp))
 go_loopg [15] pend.length (fun kq v15 w' => ∃ (x : Int) (i : Nat) (vP vK : Value), v15 = .int .i64 x ∧ Aside0 (x = (i : Int)) ∧ Aside0 (i + kq = pend.length) ∧ Aside0 (Plat w' W.heap.size w'.heap.size gp dur (pend.take i) (yng (pend.take i)) gy gm (.slice AD dur.length cD) vP vK) ∧ Aside0 (Below W.heap.size W w'))
 case atStart =>
  have hs34 := HB34.out.size
  have hp : W.heap.size ≤ w4.heap.size := HB4.out.size
  exact ⟨0, 0, .slice none 0 0, .slice none 0 0, rfl, ⟨rfl⟩, ⟨by omega⟩, ⟨{
   bp := BP4.out
   bo := (HB34.out.block _ (zw BO3.out)).trans BO3.out
   bm := BM3.out.move (HB34.out.block _ BM3.out.lt)
   rd := Kd.R_mono (Kd.R_bound (Kd.R_lower (Kd.R_below zB.out HB34.out) HS12.out)) (fun k hk => hk.2.2.1)
   rp := Kd.R_nil _ _ _ _ _
   rk := Kd.R_nil _ _ _ _ _
   pp := ⟨by rw [HGP.out]; exact HB3.out.size, zw BP4.out⟩
   po := ⟨HGY.out, Nat.lt_of_lt_of_le (zw BO3.out) hs34⟩
   pm := ⟨HGM.out, Nat.lt_of_lt_of_le BM3.out.lt hs34⟩
   m64 := fun p hp_ => by cases hp_ }⟩, HB4⟩
 case round =>
  obtain ⟨x, i, vP, vK, rfl, HX, HK, HP, HB⟩ := hrel
  clear BP4 BO3 BM3 zB HB34 HA1 HA12 HA13 HA14 HB1 HB2 HB3 HB4 HS12 HS2 HGY HGM HGP hc11
  cases gk with
  | zero =>
   have hi : i = pend.length := by have := HK.out; omega
   subst hi
   have hx : x = (pend.length : Int) := HX.out
   clear HX
   subst hx
   have hlt : decide ((pend.length : Int) < (pend.length : Int)) = false := decide_eq_false (by omega)
   go_wp2
   go_ret
   have h1 := HP.out
   rw [List.take_length] at h1
   exact ⟨gp, gy, gm, _, _, _, rfl, h1, HB.out⟩
  | succ k2 =>
   have p0 : (0 : Int) ≤ x := by have := HX.out; omega
   have q0 : x < (pend.length : Int) := by have := HK.out; have := HX.out; omega
   have hi : i < pend.length := by have := HK.out; omega
   have hlt : decide (x < (pend.length : Int)) = true := decide_eq_true q0
   obtain ⟨ad, A, c, e1, hx0, hx1, hl1, hi1⟩ := at_T195 HR1.out x p0 q0
   cases e1
   replace hx0 := (HB.out.cell (World.block_lt_of_cell? W _ hx0)).trans hx0
   replace hx1 := (HB.out.cell (World.block_lt_of_cell? W _ hx1)).trans hx1
   have HI1 := Aside0.mk hi1
   have HL1 := Aside0.mk hl1
   have h64 : (rd_T195 pend x).f1.length = 64 := by rw [HX.out]; exact HV.out i hi
   have H64 := Aside0.mk h64
   have HIL := Aside0.mk hi
   have HT := Aside0.mk (take_rd hi)
   rw [← HX.out] at HT
   clear hi1 hl1 h64 hi
   obtain ⟨row, hrow⟩ : ∃ r_, r_ = rd_T195 pend x := ⟨_, rfl⟩
   rw [← hrow] at hx0 hx1 HI1 HL1 H64 HT
   clear hrow
   obtain ⟨rb, rl⟩ := row
   simp only at hx0 hx1 HI1 HL1 H64 HT
   replace p0 := eq_true p0
   replace q0 := eq_true q0
   go_wp2_with (first | ((with_reducible refine zr (N := 5) rfl ?_); refine Go.Proofs.YtjoafknckmoojaaDoorH.alloc_arr rfl (t := 195) rfl (N := 5) rfl (zs := #[.int .i64 0, .slice none 0 0]) (n := 2) (by kernel_rfl) ?_; intro g5 hg5 w5 hA5 hb5 _; have HP5 := Aside0.mk (HP.out.below (Nat.le_refl _) hb5); have HB5 := Aside0.mk (zm HB.out hb5); have HA5 := Aside0.mk hA5; have HG5 := Aside0.mk hg5; have HS5 := Aside0.mk hb5.size; clear hA5 hg5 hb5) | (refine Go.Proofs.YtjoafknckmoojaaDoorH.store_arr (g := g5) (cells := #[.int .i64 rb, .slice A rl.length c]) rfl (t := 195) rfl rfl rfl rfl HA5.out (by kernel_rfl) rfl (by kernel_rfl) ?_; intro w6 hA56 hg6_; have HA56 := Aside0.mk hA56; have HP6 := Aside0.mk (HP5.out.move (fun k_ _ h2_ => hg6_.block k_ (Nat.lt_of_lt_of_le h2_ HS5.out) (by intro e_; injection e_ with e_; have := HG5.out; omega)) (Nat.le_refl _)); have HB6 := Aside0.mk (pw_below_grown HB5.out (some g5) HB5.out.size hg6_ (fun k_ hk_ => by injection hk_ with hk_; rw [← hk_, HG5.out]; exact HB.out.size)); have HS6 := Aside0.mk (Nat.le_trans HS5.out hg6_.size); clear hA56 hg6_))
   refine start_ (n := 8) (S := fun w' => w'.cell? ⟨g5, 0, none⟩ = some (.int .i64 rb) ∧ w'.cell? ⟨g5, 1, none⟩ = some (.slice A rl.length c) ∧ Kd.C (Kd.int .u8) w' A rl.length rl) (ds := []) #[false, false, false, false, false, false, false, false] (by kernel_rfl) rfl rfl ⟨(ze (zl HA56.out) 0).trans rfl, (ze (zl HA56.out) 1).trans rfl, Kd.C_below HI1.out (below_drew HB6.out)⟩ (fun hHeld => ?_)
   have HP7 := Aside0.mk HP6.out.drew; have HB7 := Aside0.mk (below_drew HB6.out); have HS7 := Aside0.mk (Nat.le_trans HS6.out (below_drew (Below.refl w6.heap.size w6)).size); have HA57 := Aside0.mk (zl HA56.out); generalize w6.drew = w7 at HP7 HB7 HS7 HA57 hHeld ⊢
   refine zv (i := 0) (N := some 19) (v := ?_) (a' := ?_) #[true, false, false, false, false, false, false, false] rfl rfl (by kernel_rfl) (fun _ _ _ h => h) (Or.inl ⟨by rfl, ?_⟩) ?_ ?_
   rotate_left
   ·intro w'
    go_simp
    with_reducible rfl
   rotate_left
   ·simp only [Act.put, List.setIfInBounds_toArray, List.set_cons_zero, List.set_cons_succ, zp, zq]
    rfl
   refine zv (i := 1) (N := some 20) (v := ?_) (a' := ?_) #[true, true, false, false, false, false, false, false] rfl rfl (by kernel_rfl) (fun _ _ _ h => h) (Or.inl ⟨by rfl, ?_⟩) ?_ ?_
   rotate_left
   ·intro w'
    go_simp
    with_reducible rfl
   rotate_left
   ·simp only [Act.put, List.setIfInBounds_toArray, List.set_cons_zero, List.set_cons_succ, zp, zq]
    rfl
   refine zv (i := 3) (N := some 22) (v := ?_) (a' := ?_) #[true, true, false, true, false, false, false, false] rfl rfl (by kernel_rfl) (fun _ _ _ h => h) (Or.inl ⟨by rfl, ?_⟩) ?_ ?_
   rotate_left
   ·intro w'
    go_simp
    with_reducible rfl
   rotate_left
   ·simp only [Act.put, List.setIfInBounds_toArray, List.set_cons_zero, List.set_cons_succ, zp, zq]
    rfl
   refine take_ (i := 2) (N := some 21) (v := ?_) (a' := ?_) #[true, true, true, true, false, false, false, false] rfl rfl (by kernel_rfl) (fun _ _ _ h => h) (Or.inl ⟨by rfl, ?_⟩) hHeld ?_ ?_
   rotate_left
   ·rintro w' ⟨s0, s1, s2⟩
    go_simp
    with_reducible rfl
   rotate_left
   ·simp only [Act.put, List.setIfInBounds_toArray, List.set_cons_zero, List.set_cons_succ, zp, zq]
    rfl
   refine take_ (i := 4) (N := some 23) (v := ?_) (a' := ?_) #[true, true, true, true, true, false, false, false] rfl rfl (by kernel_rfl) (fun _ _ _ h => h) (Or.inl ⟨by rfl, ?_⟩) hHeld ?_ ?_
   rotate_left
   ·rintro w' ⟨s0, s1, s2⟩
    go_simp
    with_reducible rfl
   rotate_left
   ·simp only [Act.put, List.setIfInBounds_toArray, List.set_cons_zero, List.set_cons_succ, zp, zq]
    rfl
   refine zv (i := 5) (N := some 24) (v := .pointer A) (a' := ?_) #[true, true, true, true, true, true, false, false] rfl rfl (by kernel_rfl) (fun _ _ _ h => h) (Or.inl ⟨by rfl, ?_⟩) ?_ ?_
   ·intro w'
    exact run_toarr (by rfl) (by rfl) (by have := H64.out; omega)
   rotate_left
   ·simp only [Act.put, List.setIfInBounds_toArray, List.set_cons_zero, List.set_cons_succ, zp, zq]
    rfl
   refine take_ (i := 6) (N := some 25) (v := arrV rl) (a' := ?_) #[true, true, true, true, true, true, true, false] rfl rfl (by kernel_rfl) (fun _ _ _ h => h) (Or.inl ⟨by rfl, ?_⟩) hHeld ?_ ?_
   ·rintro w' ⟨s0, s1, s2⟩
    exact run_ldC (by rfl) (by rfl) H64.out s2
   rotate_left
   ·simp only [Act.put, List.setIfInBounds_toArray, List.set_cons_zero, List.set_cons_succ, zp, zq]
    rfl
   refine one_ (i := 7) (N := some 26) #[true, true, true, true, true, true, true, true] rfl rfl (by kernel_rfl) (by decide) (fun K hK => ?_)
   refine goes_ Tryd.func83 (by kernel_rfl) rfl #[.pointer (some ⟨gp, 0, none⟩), .int .i64 rb, arrV rl] (by rfl) rfl rfl (by (try simp only [List.map_toArray, List.map_cons, List.map_nil]); first | done | rfl) ?_
   refine (write_c w7 W.heap.size _ gp dur _ _ gy gm _ vP vK rb rl H64.out HP7.out HB7.out.size HS7.out (by have h1_ := yng_len (pend.take i); have h2_ := HPL.out; rw [List.length_take] at h1_; omega) (by have h2_ := HPL.out; rw [List.length_take]; omega)).mono ?_
   rintro e w8 ⟨rfl, vP', vK', hP8, hb8, hk8⟩
   refine ⟨_, rfl, ?_⟩
   have HBN := Aside0.mk (HB7.out.trans hb8)
   have HPN := Aside0.mk hP8
   rw [show (⟨rb, rl⟩ : S195) = ⟨rb, rl⟩ from rfl, ← HT.out] at HPN
   have hyn : YtjoafknckmoojaaDoorH.aset (yng (pend.take i)) rb rl = yng (pend.take (i + 1)) := by rw [HT.out, yng_snoc]
   rw [hyn] at HPN
   have HA58 := Aside0.mk ((hk8.2 g5 (zw HA57.out) (fun h_ => by have := HG5.out; omega)).trans HA57.out)
   clear hP8 hb8 hk8 hyn
   refine hK.out _ _ ⟨(ze HA58.out 0).trans rfl, (ze HA58.out 1).trans rfl, Kd.C_below HI1.out HBN.out⟩ (fun hHeld => ?_)
   clear hK K
   refine norm_ (a' := ?_) ?_ ?_
   rotate_left
   ·show Act.put _ (some 26) _ = _
    simp only [Act.put, List.setIfInBounds_toArray, List.set_cons_zero, List.set_cons_succ, zp, zq]
    rfl
   refine done_ (by kernel_rfl) ?_
   try go_wp2
   go_roundg k2
   case measure => omega
   case rel =>
    refine ⟨_, i + 1, vP', vK', rfl, ⟨?_⟩, ⟨by have := HK.out; omega⟩, HPN, HBN⟩
    have := HX.out
    have := HIL.out
    have := HPL.out
    unfold wrap64
    omega
set_option maxHeartbeats 4000000 in
set_option maxRecDepth 100000 in
theorem disk_c (W : World) (B s gp : Nat) (dur : List Int) (pend : List S195) (m : List (Int × List Int)) (gy gm : Nat) (vD vP vK : Value) (hP : Plat W B s gp dur pend m gy gm vD vP vK) (hs : s ≤ W.heap.size) (hdl : dur.length ≤ 100000000) (hpl : pend.length ≤ 1000000) (hv : ∀ i : Nat, i < pend.length → (rd_T195 pend (i : Int)).f1.length ≤ 100000000) :
  Calls Tryd.prog 86 #[.pointer (some ⟨gp, 0, none⟩)] W fun e w' => ∃ v0 v1, e = .returned (.agg #[v0, v1]) ∧ Kd.R (Kd.int .u8) 5 w' W.heap.size (fun _ => True) v0 dur ∧ Kd.S k195 195 w' W.heap.size (fun k_ => some k_ ≠ v0.ownBlock) v1 pend ∧ Below W.heap.size W w' := by
 obtain ⟨A0, c0, e0⟩ := Kd.R_slice hP.rd
 subst e0
 obtain ⟨A1, c1, e1⟩ := Kd.R_slice hP.rp
 subst e1
 have HR0 := Aside0.mk (Kd.R_reads' hP.rd).2.2
 have HC0 := Aside0.mk (Kd.R_reads' hP.rd).2.1
 have HR1 := Aside0.mk (Kd.R_reads' hP.rp).2.2
 have HBP := Aside0.mk hP.bp
 have HV := Aside0.mk hv
 have HDL := Aside0.mk hdl
 have HPL := Aside0.mk hpl
 clear hP hs hv hdl hpl
 go_enter Tryd.func86, Tryd.ntmps86
 go_wp2_with (first | ((with_reducible refine zr (N := 2) rfl ?_); refine Go.Proofs.YtjoafknckmoojaaDoorH.alloc_arr rfl (t := 47) rfl (N := 2) rfl (zs := #[.slice none 0 0, .slice none 0 0]) (n := 2) (by kernel_rfl) ?_; intro g2 hg2 w1 hA2 hb1 _; have HA2 := Aside0.mk hA2; have HB1 := Aside0.mk hb1; have HGE2 := Aside0.mk (show W.heap.size ≤ g2 by (rw [hg2]; exact Nat.le_refl _)); have hcp0 : w1.cell? ⟨gp, 0, none⟩ = some (.slice A0 dur.length c0) := (ze ((hb1.block _ (zw HBP.out)).trans HBP.out) 0).trans rfl; clear hA2 hb1 hg2) | ((with_reducible refine zn (f := 143) rfl ?_); refine zx (some 10) rfl rfl Tryd.func143 (by kernel_rfl) rfl #[.slice A0 dur.length c0] rfl (by (try simp only [List.map_toArray, List.map_cons, List.map_nil]); first | done | rfl) ?_; refine (slices_Clone_byte_byte.calls A0 c0 dur dur w1 (Kd.C_below HR0.out HB1.out) HC0.out (cloneAny HDL.out)).mono ?_; rintro e w2 ⟨v_, rfl, zB, hb2⟩; obtain ⟨AD, cD, eD⟩ := Kd.R_slice zB; subst eD; refine ⟨_, rfl, ?_⟩; have HD2 := Aside0.mk (Kd.R_lower zB HB1.out.size); have HA22 := Aside0.mk ((hb2.block _ (zw HA2.out)).trans HA2.out); have HB2 := Aside0.mk (zm HB1.out hb2); have HL22 := Aside0.mk (Nat.lt_of_lt_of_le (zw HA2.out) hb2.size); clear zB hb2 hcp0) | ((with_reducible refine zr (N := 3) rfl ?_); refine Go.Proofs.YtjoafknckmoojaaDoorH.alloc_arr rfl (t := 47) rfl (N := 3) rfl (zs := #[.slice none 0 0, .slice none 0 0]) (n := 2) (by kernel_rfl) ?_; intro g3 hg3 w3 hA3 hb3 _; have HA3 := Aside0.mk hA3; have HA23 := Aside0.mk ((hb3.block _ (zw HA22.out)).trans HA22.out); have HD3 := Aside0.mk (Kd.R_below HD2.out hb3); have HB3 := Aside0.mk (zm HB2.out hb3); have HGE3 := Aside0.mk (show W.heap.size ≤ g3 by (rw [hg3]; exact HB2.out.size)); have HNE := Aside0.mk (show g2 ≠ g3 by (have := HL22.out; omega)); clear hA3 hb3 hg3) | (refine Go.Proofs.YtjoafknckmoojaaDoorH.store_arr (g := g3) (cells := #[.slice AD dur.length cD, .slice none 0 0]) rfl (t := 47) rfl rfl rfl rfl HA3.out (by kernel_rfl) rfl (by kernel_rfl) ?_; intro w4 hA34 hg4; have HA34 := Aside0.mk hA34; have HA24 := Aside0.mk (zz HA23.out hg4 (fun e_ => HNE.out (by injection e_))); have HD4 := Aside0.mk (Kd.R_mono (Kd.R_grown (Kd.R_types HD3.out HA3.out (by decide)) hg4 (fun k_ hk_ e_ => hk_.2 (by injection e_))) (fun _ _ => trivial)); have HB4 := Aside0.mk (pw_below_grown HB3.out (some g3) HB3.out.size hg4 (fun k_ hk_ => by injection hk_ with hk_; rw [← hk_]; exact HGE3.out)); have hcp1 : w4.cell? ⟨gp, 1, none⟩ = some (.slice A1 pend.length c1) := (ze ((HB4.out.block _ (zw HBP.out)).trans HBP.out) 1).trans rfl; clear hA34 hg4))
 go_loopg [17] pend.length (fun kq v17 w' => ∃ (x : Int) (i : Nat) (vQ : Value), v17 = .int .i64 x ∧ Aside0 (x = (i : Int)) ∧ Aside0 (i + kq = pend.length) ∧ Aside0 (Kd.S k195 195 w' W.heap.size (fun k_ => some k_ ≠ (.slice AD dur.length cD : Value).ownBlock) vQ (pend.take i)) ∧ Aside0 (Kd.R (Kd.int .u8) 5 w' W.heap.size (fun _ => True) (.slice AD dur.length cD) dur) ∧ Aside0 (w'.heap[g3]? = some (.cells #[.slice AD dur.length cD, vQ] 47 (0, 0))) ∧ Aside0 (w'.heap[g2]? = some (.cells #[.slice none 0 0, .slice none 0 0] 47 (0, 0))) ∧ Aside0 (Below W.heap.size W w'))
 case atStart => exact ⟨0, 0, .slice none 0 0, rfl, ⟨rfl⟩, ⟨by omega⟩, ⟨Kd.S_nil _ _ _ _ _⟩, HD4, HA34, HA24, HB4⟩
 case round =>
  obtain ⟨x, i, vQ, rfl, HX, HK, HS, HD, HA3, HA2, HB⟩ := hrel
  clear HD4 HA34 HA24 HB4
  cases gk with
  | zero =>
   have hi : i = pend.length := by have := HK.out; omega
   subst hi
   have hx : x = (pend.length : Int) := HX.out
   clear HX
   subst hx
   have hlt : decide ((pend.length : Int) < (pend.length : Int)) = false := decide_eq_false (by omega)
   have hS := HS.out
   rw [List.take_length] at hS
   obtain ⟨AQ, cQ, eQ⟩ := Kd.S_slice hS
   subst eQ
   have HS0 := Aside0.mk hS
   clear hS HS
   have hc30 : wr.cell? ⟨g3, 0, none⟩ = some (.slice AD dur.length cD) := (ze HA3.out 0).trans rfl
   have hc31 : wr.cell? ⟨g3, 1, none⟩ = some (.slice AQ pend.length cQ) := (ze HA3.out 1).trans rfl
   go_wp2_with (refine Go.Proofs.YtjoafknckmoojaaDoorH.store_arr (g := g2) (cells := #[.slice AD dur.length cD, .slice AQ pend.length cQ]) rfl (t := 47) rfl rfl rfl rfl HA2.out (by kernel_rfl) rfl (by kernel_rfl) ?_; intro w9 hA9 hg9; have HA9 := Aside0.mk hA9; have HG9 := Aside0.mk hg9; clear hA9 hg9)
   refine bodyPost_ret (results_cell_row rfl _ _ g2 47 _ (0, 0) _ rfl HA9.out Tryd.underlying47 rfl (by kernel_rfl)) rfl ?_
   refine ⟨.slice AD dur.length cD, .slice AQ pend.length cQ, rfl, Kd.R_mono (Kd.R_grown (Kd.R_types HD.out HA2.out (by decide)) HG9.out (fun k_ hk_ e_ => hk_.2 (by injection e_))) (fun _ _ => trivial), Kd.S_mono (Kd.S_grown (Kd.S_types HS0.out HA2.out (by decide)) HG9.out (fun k_ hk_ e_ => hk_.2 (by injection e_))) (fun _ hk_ => hk_.1), pw_below_grown HB.out (some g2) HB.out.size HG9.out (fun k_ hk_ => by injection hk_ with hk_; rw [← hk_]; exact HGE2.out)⟩
  | succ k2 =>
   have p0 : (0 : Int) ≤ x := by have := HX.out; omega
   have q0 : x < (pend.length : Int) := by have := HK.out; have := HX.out; omega
   have hi : i < pend.length := by have := HK.out; omega
   have hlt : decide (x < (pend.length : Int)) = true := decide_eq_true q0
   obtain ⟨ad, A, c, e1, hx0, hx1, hl1, hi1⟩ := at_T195 HR1.out x p0 q0
   cases e1
   replace hx0 := (HB.out.cell (World.block_lt_of_cell? W _ hx0)).trans hx0
   replace hx1 := (HB.out.cell (World.block_lt_of_cell? W _ hx1)).trans hx1
   have HI1 := Aside0.mk hi1
   have HL1 := Aside0.mk hl1
   have h64 : (rd_T195 pend x).f1.length ≤ 100000000 := by rw [HX.out]; exact HV.out i hi
   have H64 := Aside0.mk h64
   have HIL := Aside0.mk hi
   have HT := Aside0.mk (take_rd hi)
   rw [← HX.out] at HT
   clear hi1 hl1 h64 hi
   obtain ⟨row, hrow⟩ : ∃ r_, r_ = rd_T195 pend x := ⟨_, rfl⟩
   rw [← hrow] at hx0 hx1 HI1 HL1 H64 HT
   clear hrow
   obtain ⟨rb, rl⟩ := row
   simp only at hx0 hx1 HI1 HL1 H64 HT
   replace p0 := eq_true p0
   replace q0 := eq_true q0
   go_wp2_with (first | ((with_reducible refine zr (N := 5) rfl ?_); refine Go.Proofs.YtjoafknckmoojaaDoorH.alloc_arr rfl (t := 195) rfl (N := 5) rfl (zs := #[.int .i64 0, .slice none 0 0]) (n := 2) (by kernel_rfl) ?_; intro g5 hg5 w5 hA5 hb5 _; have HB5 := Aside0.mk (zm HB.out hb5); have HA5 := Aside0.mk hA5; have HS5 := Aside0.mk (Kd.S_elderB HS.out g5 (by (rw [hg5]; exact Nat.le_refl _))); have HS5b := Aside0.mk (Kd.S_below HS5.out hb5); have HD5 := Aside0.mk (Kd.R_below HD.out hb5); have HA35 := Aside0.mk ((hb5.block _ (zw HA3.out)).trans HA3.out); have HA25 := Aside0.mk ((hb5.block _ (zw HA2.out)).trans HA2.out); have HN35 := Aside0.mk (show g3 ≠ g5 by (have := zw HA3.out; omega)); have HN25 := Aside0.mk (show g2 ≠ g5 by (have := zw HA2.out; omega)); have HGE5 := Aside0.mk (show W.heap.size ≤ g5 by (rw [hg5]; exact HB.out.size)); clear hA5 hg5 hb5) | (refine Go.Proofs.YtjoafknckmoojaaDoorH.store_arr (g := g5) (cells := #[.int .i64 rb, .slice A rl.length c]) rfl (t := 195) rfl rfl rfl rfl HA5.out (by kernel_rfl) rfl (by kernel_rfl) ?_; intro w6 hA56 hg6_; have HA56 := Aside0.mk hA56; have HS6 := Aside0.mk (Kd.S_mono (Kd.S_grown HS5b.out hg6_ (fun k_ hk_ e_ => hk_.2 (by injection e_))) (fun _ hk_ => hk_.1)); have HD6 := Aside0.mk (Kd.R_mono (Kd.R_grown (Kd.R_types HD5.out HA5.out (by decide)) hg6_ (fun k_ hk_ e_ => hk_.2 (by injection e_))) (fun _ _ => trivial)); have HGN5 := Aside0.mk (show some g5 ≠ vQ.ownBlock from fun e_ => ((Kd.S_R HS5.out).1 g5 e_.symm).2 rfl); have HA36 := Aside0.mk (zz HA35.out hg6_ (fun e_ => HN35.out (by injection e_))); have HA26 := Aside0.mk (zz HA25.out hg6_ (fun e_ => HN25.out (by injection e_))); have HB6 := Aside0.mk (pw_below_grown HB5.out (some g5) HB5.out.size hg6_ (fun k_ hk_ => by injection hk_ with hk_; rw [← hk_]; exact HGE5.out)); clear hA56 hg6_))
   refine start_ (n := 12) (S := fun w' => w'.cell? ⟨g3, 1, none⟩ = some vQ ∧ w'.cell? ⟨g5, 0, none⟩ = some (.int .i64 rb) ∧ w'.cell? ⟨g5, 1, none⟩ = some (.slice A rl.length c)) (ds := [11]) #[false, false, false, false, false, false, false, false, false, false, false, false] (by kernel_rfl) rfl rfl ⟨(ze (zl HA36.out) 1).trans rfl, (ze (zl HA56.out) 0).trans rfl, (ze (zl HA56.out) 1).trans rfl⟩ (fun hHeld => ?_)
   have HS7 := Aside0.mk (Kd.S_drew HS6.out); have HD7 := Aside0.mk (Kd.R_drew HD6.out); have HA37 := Aside0.mk (zl HA36.out); have HA27 := Aside0.mk (zl HA26.out); have HA57 := Aside0.mk (zl HA56.out); have HB7 := Aside0.mk (below_drew HB6.out); generalize w6.drew = w7 at HS7 HD7 HA37 HA27 HA57 HB7 hHeld ⊢
   refine zv (i := 0) (N := some 21) (v := ?_) (a' := ?_) #[true, false, false, false, false, false, false, false, false, false, false, false] rfl rfl (by kernel_rfl) (fun _ _ _ h => h) (Or.inl ⟨by rfl, ?_⟩) ?_ ?_
   rotate_left
   ·intro w'
    go_simp
    with_reducible rfl
   rotate_left
   ·simp only [Act.put, List.setIfInBounds_toArray, List.set_cons_zero, List.set_cons_succ, zp, zq]
    rfl
   refine zv (i := 2) (N := some 23) (v := ?_) (a' := ?_) #[true, false, true, false, false, false, false, false, false, false, false, false] rfl rfl (by kernel_rfl) (fun _ _ _ h => h) (Or.inl ⟨by rfl, ?_⟩) ?_ ?_
   rotate_left
   ·intro w'
    go_simp
    with_reducible rfl
   rotate_left
   ·simp only [Act.put, List.setIfInBounds_toArray, List.set_cons_zero, List.set_cons_succ, zp, zq]
    rfl
   refine zv (i := 4) (N := some 25) (v := ?_) (a' := ?_) #[true, false, true, false, true, false, false, false, false, false, false, false] rfl rfl (by kernel_rfl) (fun _ _ _ h => h) (Or.inl ⟨by rfl, ?_⟩) ?_ ?_
   rotate_left
   ·intro w'
    go_simp
    with_reducible rfl
   rotate_left
   ·simp only [Act.put, List.setIfInBounds_toArray, List.set_cons_zero, List.set_cons_succ, zp, zq]
    rfl
   refine take_ (i := 1) (N := some 22) (v := ?_) (a' := ?_) #[true, true, true, false, true, false, false, false, false, false, false, false] rfl rfl (by kernel_rfl) (fun _ _ _ h => h) (Or.inl ⟨by rfl, ?_⟩) hHeld ?_ ?_
   rotate_left
   ·rintro w' ⟨s0, s1, s2⟩
    go_simp
    with_reducible rfl
   rotate_left
   ·simp only [Act.put, List.setIfInBounds_toArray, List.set_cons_zero, List.set_cons_succ, zp, zq]
    rfl
   refine take_ (i := 3) (N := some 24) (v := ?_) (a' := ?_) #[true, true, true, true, true, false, false, false, false, false, false, false] rfl rfl (by kernel_rfl) (fun _ _ _ h => h) (Or.inl ⟨by rfl, ?_⟩) hHeld ?_ ?_
   rotate_left
   ·rintro w' ⟨s0, s1, s2⟩
    go_simp
    with_reducible rfl
   rotate_left
   ·simp only [Act.put, List.setIfInBounds_toArray, List.set_cons_zero, List.set_cons_succ, zp, zq]
    rfl
   refine take_ (i := 5) (N := some 26) (v := ?_) (a' := ?_) #[true, true, true, true, true, true, false, false, false, false, false, false] rfl rfl (by kernel_rfl) (fun _ _ _ h => h) (Or.inl ⟨by rfl, ?_⟩) hHeld ?_ ?_
   rotate_left
   ·rintro w' ⟨s0, s1, s2⟩
    go_simp
    with_reducible rfl
   rotate_left
   ·simp only [Act.put, List.setIfInBounds_toArray, List.set_cons_zero, List.set_cons_succ, zp, zq]
    rfl
   refine one_ (i := 6) (N := some 27) #[true, true, true, true, true, true, true, false, false, false, false, false] rfl rfl (by kernel_rfl) (by decide) (fun K hK => ?_)
   refine goes_ Tryd.func143 (by kernel_rfl) rfl #[.slice A rl.length c] (by rfl) rfl rfl (by (try simp only [List.map_toArray, List.map_cons, List.map_nil]); first | done | rfl) ?_
   refine (slices_Clone_byte_byte.calls A c rl rl w7 (Kd.C_below HI1.out HB7.out) HL1.out (cloneAny H64.out)).mono ?_
   rintro e w8 ⟨v20, rfl, zC, hb8⟩
   obtain ⟨A20, c20, e20⟩ := Kd.R_slice zC
   subst e20
   refine ⟨_, rfl, ?_⟩
   have zD := Aside0.mk zC
   have HS8 := Aside0.mk (Kd.S_old HS7.out hb8)
   have HD8 := Aside0.mk (Kd.R_old HD7.out hb8)
   have HA38 := Aside0.mk ((hb8.block _ (zw HA37.out)).trans HA37.out)
   have HA28 := Aside0.mk ((hb8.block _ (zw HA27.out)).trans HA27.out)
   have HA58 := Aside0.mk ((hb8.block _ (zw HA57.out)).trans HA57.out)
   have HB8 := Aside0.mk (zm HB7.out hb8)
   have HSZ8 := Aside0.mk hb8.size
   clear zC hb8
   refine hK.out _ _ ⟨(ze HA38.out 1).trans rfl, (ze HA58.out 0).trans rfl, (ze HA58.out 1).trans rfl⟩ (fun hHeld => ?_)
   clear hK K
   refine norm_ (a' := ?_) ?_ ?_
   rotate_left
   ·show Act.put _ (some 27) _ = _
    simp only [Act.put, List.setIfInBounds_toArray, List.set_cons_zero, List.set_cons_succ, zp, zq]
    rfl
   refine zv (i := 7) (N := some 28) (v := ?_) (a' := ?_) #[true, true, true, true, true, true, true, true, false, false, false, false] rfl rfl (by kernel_rfl) (fun _ _ _ h => h) (Or.inl ⟨by rfl, ?_⟩) ?_ ?_
   rotate_left
   ·intro w'
    go_simp
    with_reducible rfl
   rotate_left
   ·simp only [Act.put, List.setIfInBounds_toArray, List.set_cons_zero, List.set_cons_succ, zp, zq]
    rfl
   refine one_ (i := 8) (N := some 29) #[true, true, true, true, true, true, true, true, true, false, false, false] rfl rfl (by kernel_rfl) (by decide) (fun K hK => ?_)
   refine value_ (w1 := ?_) (v := ?_) (by rfl) rfl ?_ ?_
   rotate_left 2
   ·go_simp
    constructor
    ·rfl
    ·rfl
   refine hK.out _ _ ⟨(ze (zi HA38.out _) 1).trans rfl, (ze (zi HA58.out _) 0).trans rfl, (ze (zi HA58.out _) 1).trans rfl⟩ (fun hHeld => ?_)
   clear hK K
   refine norm_ (a' := ?_) ?_ ?_
   rotate_left
   ·show Act.put _ (some 29) _ = _
    simp only [Act.put, List.setIfInBounds_toArray, List.set_cons_zero, List.set_cons_succ, zp, zq]
    rfl
   refine one_ (i := 9) (N := some 30) #[true, true, true, true, true, true, true, true, true, true, false, false] rfl rfl (by kernel_rfl) (by decide) (fun K hK => ?_)
   refine Kd.S_append_step k195 (w0 := W) W.heap.size (by rfl) (.tmp 22) (.tmp 29) 45 195 (.agg #[(.int .i64 0), (.slice none 0 0)]) 32 rfl Tryd.underlying45 infoWr_ rfl (by decide) (by omega) vQ (pend.take i) ⟨rb, rl⟩ [.int .i64 rb, .slice A20 rl.length c20] (fun k_ => some k_ ≠ (.slice AD dur.length cD : Value).ownBlock) (fun k_ => w7.heap.size ≤ k_) rfl rfl ?aP ?aQ ?aF ?aO ?aB ?aS ?aL ?_
   (case aP => exact k195_mkM _ _ _ _ (Kd.R_lower (Kd.R_mono (Kd.R_bound zD.out) (fun k_ hk_ => hk_.2.1)) HB7.out.size))
   (case aQ => exact (fun k_ hk_ => ⟨fun e_ => by have h1_ := (HD8.out.1 k_ e_.symm).2; omega, fun e_ => by have h1_ := Kd.S_lt HS7.out k_ e_.symm; omega⟩))
   (case aF => exact (fun k_ hk_ e_ => by have h1_ := Kd.R_lt HD8.out k_ e_.symm; omega))
   (case aO => exact (Kd.S_mono HS8.out (fun k_ hk_ => ⟨hk_.1, by have := hk_.2; omega⟩)))
   (case aB => exact HB8.out)
   (case aS => exact HB8.out.size)
   (case aL => have := HPL.out; rw [List.length_take]; omega)
   intro vP6 w9 zA hb6 hg6 hat6
   rw [← HT.out] at zA
   obtain ⟨pn, hpn⟩ : ∃ p_, p_ = pend.take (i + 1) := ⟨_, rfl⟩
   rw [← hpn] at zA
   have HPN := Aside0.mk hpn
   clear hpn
   obtain ⟨AN, cN, eN⟩ := Kd.S_slice zA
   subst eN
   have HA39 := Aside0.mk (zz HA38.out hg6 (Kd.S_ne HS8.out HA38.out (by decide)))
   have HA29 := Aside0.mk (zz HA28.out hg6 (Kd.S_ne HS8.out HA28.out (by decide)))
   have HA59 := Aside0.mk (zz HA58.out hg6 (fun e_ => by have h1_ := HGN5.out; exact h1_ e_))
   have HD9 := Aside0.mk (Kd.R_reok (ok := fun _ => True) rfl (Kd.R_grown (Kd.R_tight rfl HD8.out) hg6 (fun k_ hk_ e_ => by obtain ⟨c2_, h2_⟩ := Kd.S_typed HS8.out k_ e_.symm; obtain ⟨c3_, h3_⟩ := Kd.R_typed HD8.out k_ hk_.symm; rw [h2_] at h3_; injection h3_ with h3_; injection h3_ with _ h3_; exact absurd h3_ (by decide))) (fun _ _ => trivial))
   have hc9 : w9.cell? ⟨g3, 1, none⟩ = some vQ := (ze HA39.out 1).trans rfl
   have hf9 := zg HA39.out 1
   have HS9 := Aside0.mk zA
   have HB9 := Aside0.mk hb6
   clear zA hb6 hg6 hat6
   refine hK.out _ _ ⟨hc9, (ze HA59.out 0).trans rfl, (ze HA59.out 1).trans rfl⟩ (fun hHeld => ?_)
   clear hK K
   refine norm_ (a' := ?_) ?_ ?_
   rotate_left
   ·show Act.put _ (some 30) _ = _
    simp only [Act.put, List.setIfInBounds_toArray, List.set_cons_zero, List.set_cons_succ, zp, zq]
    rfl
   refine zv (i := 10) (N := some 31) (v := ?_) (a' := ?_) #[true, true, true, true, true, true, true, true, true, true, true, false] rfl rfl (by kernel_rfl) (fun _ _ _ h => h) (Or.inl ⟨by rfl, ?_⟩) ?_ ?_
   rotate_left
   ·intro w'
    go_simp
    with_reducible rfl
   rotate_left
   ·simp only [Act.put, List.setIfInBounds_toArray, List.set_cons_zero, List.set_cons_succ, zp, zq]
    rfl
   refine last_ (i := 11) (N := none) #[true, true, true, true, true, true, true, true, true, true, true, true] rfl rfl (by kernel_rfl) (by decide) (fun K hK => ?_)
   refine skip_ (w1 := w9.setCell ⟨g3, 1, none⟩ (.slice AN pn.length cN)) (by rfl) rfl ?_ ?_
   ·go_simp
   refine hK.out _ _ ?_
   clear hK K
   refine done_ (by kernel_rfl) ?_
   try go_wp2
   have HSN : Aside0 (Kd.S k195 195 (w9.setCell ⟨g3, 1, none⟩ (.slice AN pn.length cN)) W.heap.size (fun k_ => some k_ ≠ (.slice AD dur.length cD : Value).ownBlock) (.slice AN pn.length cN) (pend.take (i + 1))) := ⟨by rw [← HPN.out]; exact Kd.S_set HS9.out HA39.out (by decide) 1 _⟩
   have HDN : Aside0 (Kd.R (Kd.int .u8) 5 (w9.setCell ⟨g3, 1, none⟩ (.slice AN pn.length cN)) W.heap.size (fun _ => True) (.slice AD dur.length cD) dur) := ⟨Kd.R_set HD9.out HA39.out (by decide) 1 _⟩
   have HA3N : Aside0 ((w9.setCell ⟨g3, 1, none⟩ (.slice AN pn.length cN)).heap[g3]? = some (.cells #[.slice AD dur.length cD, .slice AN pn.length cN] 47 (0, 0))) := ⟨zy HA39.out 1 _ rfl⟩
   have HA2N : Aside0 ((w9.setCell ⟨g3, 1, none⟩ (.slice AN pn.length cN)).heap[g2]? = some (.cells #[.slice none 0 0, .slice none 0 0] 47 (0, 0))) := ⟨(Below.heap_setCell w9 ⟨g3, 1, none⟩ _ g2 HNE.out).trans HA29.out⟩
   have HBN : Aside0 (Below W.heap.size W (w9.setCell ⟨g3, 1, none⟩ (.slice AN pn.length cN))) := ⟨Below.setCell HB9.out HGE3.out _⟩
   go_roundg k2
   case measure => omega
   case rel =>
    refine ⟨_, i + 1, .slice AN pn.length cN, rfl, ⟨?_⟩, ⟨by have := HK.out; omega⟩, HSN, HDN, HA3N, HA2N, HBN⟩
    have := HX.out
    have := HIL.out
    have := HPL.out
    unfold wrap64
    omega
set_option maxRecDepth 100000 in
theorem copy_mid {W : World} {B gD cap off dl dcap m c : Nat} {ty : TypeId} {ok : Nat → Prop} {dur ys : List Int} {A : Option Addr} (h : (Kd.int .u8).R 5 W B ok (.slice (some ⟨gD, 0, none⟩) dur.length cap) dur) (hr : (Kd.int .u8).C W A m ys) (ho : off + min m dl ≤ dur.length) :
  ∃ w', (Builtin.copy_ #[22, 22] ty #[.slice (some ⟨gD, off, none⟩) dl dcap, .slice A m c]).run Tryd.prog W = .ok (goInt ((min m dl : Nat) : Int)) w' ∧ (Kd.int .u8).R 5 w' B ok (.slice (some ⟨gD, 0, none⟩) dur.length cap) (dur.take off ++ ys.take (min m dl) ++ dur.drop (off + min m dl)) ∧ W.grownBy w' (some gD) := by
 have ht := Tryd.underlying22
 have hinfo : (Tryd.prog.info? 5).map (·.size) = some 1 := by kernel_rfl
 have hR := Kd.reads_of_C (enc := Value.int .u8) (d := (0 : Int)) (h1 := fun _ => rfl) hr
 have hm : ys.length = m := hR.1
 have hown := Kd.own_of_R (enc := Value.int .u8) (h1 := fun _ => rfl) h
 rcases Nat.eq_zero_or_pos (min m dl) with h0 | hp
 ·refine ⟨W, ?_, by rw [h0, List.take_zero, List.append_nil, Nat.add_zero, List.take_append_drop]; exact h, World.grownBy.refl W _⟩
  rw [h0]
  exact run_copy_none W _ _ ty _ (some ⟨gD, off, none⟩) A dl dcap m c ht hinfo h0
 ·obtain ⟨ad, hA, hc⟩ := hR.2.2 (by omega)
  rcases hown.2 with ⟨hv, hx0⟩ | ⟨g, cap2, cur, hv, hb, hh, hnc, hcm, hcs, htake⟩
  ·cases hv
  ·injection hv with hv1 _ hv3
   injection hv1 with hv1
   injection hv1 with hv1
   subst hv1 hv3
   have hcs1 : cur.size = cap := by omega
   have hkl : (encs (Value.int .u8) (ys.take (min m dl))).length = min m dl := by rw [encs_length, List.length_take]; omega
   have hsrc : ∀ j u, (encs (Value.int .u8) (ys.take (min m dl)))[j]? = some u → W.cell? (ad.add j) = some u := by
    intro j u hu
    have hj : j < (ys.take (min m dl)).length := by
     rcases Nat.lt_or_ge j (ys.take (min m dl)).length with h | h
     ·exact h
     ·rw [List.getElem?_eq_none (by rw [encs_length]; exact h)] at hu
      cases hu
    have hjm : j < min m dl := by rw [List.length_take] at hj; omega
    rw [encs_get (d := (0 : Int)) _ j hj] at hu
    rw [hc j (by omega), ← hu]
    simp [List.getD_eq_getElem?_getD, hjm]
   have hrun := run_copy_cells (P := Tryd.prog) W 22 22 ty _ gD off dl dcap ad m c (encs (Value.int .u8) (ys.take (min m dl))) ht hinfo (by rw [hkl]) hsrc
    (fun j hj => by rw [cell_of_row W gD _ cur _ (0, 0) hh]; simp; omega) (fun j _ => zg hh _) (by intro u hu; simp only [encs, List.mem_map] at hu; obtain ⟨q, _, rfl⟩ := hu; rfl)
   obtain ⟨cur', h3, h4, h5⟩ := setCells_row (encs (Value.int .u8) (ys.take (min m dl))) off W cur hh (by rw [hkl]; omega)
   obtain ⟨s1, s2, s3, s4⟩ := setCells_same gD (encs (Value.int .u8) (ys.take (min m dl))) off W
   refine ⟨_, by rw [hA, hrun, hkl], Kd.R_of_own (enc := Value.int .u8) (h1 := fun _ => rfl) ?_ h.1, ⟨s1, s2, s3, by rw [s4]; exact Nat.le_refl _, fun k _ hk => setCells_far _ _ k (fun he => hk (by rw [he]))⟩⟩
   have hln : (dur.take off ++ ys.take (min m dl) ++ dur.drop (off + min m dl)).length = dur.length := by
    simp only [List.length_append, List.length_take, List.length_drop]
    omega
   rw [hln]
   refine ⟨by rw [encs_length, hln, Nat.mul_one], .inr ⟨gD, cap, cur', rfl, hb, h3, hnc, hcm, by rw [h4, hcs], ?_⟩⟩
   have htk : cur.toList.take dur.length = encs (Value.int .u8) dur := by rw [← htake, Nat.mul_one]
   have e1 : cur.toList.take off = encs (Value.int .u8) (dur.take off) := by
    have : (cur.toList.take dur.length).take off = cur.toList.take off := by rw [List.take_take]; congr 1; omega
    rw [← this, htk]; simp [encs, List.map_take]
   have e2 : (cur.toList.drop (off + min m dl)).take (dur.length - (off + min m dl)) = encs (Value.int .u8) (dur.drop (off + min m dl)) := by
    have : (cur.toList.take dur.length).drop (off + min m dl) = (cur.toList.drop (off + min m dl)).take (dur.length - (off + min m dl)) := by rw [List.drop_take]
    rw [← this, htk]; simp [encs, List.map_drop]
   rw [h5, hkl, e1, Nat.mul_one]
   have l1 : (encs (Value.int .u8) (dur.take off)).length = off := by rw [encs_length, List.length_take]; omega
   rw [List.take_append, List.take_of_length_le (by rw [List.length_append, l1, hkl]; omega), List.length_append, l1, hkl, e2, encs_append, encs_append]
set_option maxHeartbeats 4000000 in
set_option maxRecDepth 100000 in
theorem settled_c (W : World) (B s gp : Nat) (dur : List Int) (pend : List S195) (m : List (Int × List Int)) (gy gm : Nat) (vD vP vK : Value) (hP : Plat W B s gp dur pend m gy gm vD vP vK) (hs : s ≤ W.heap.size) :
  Calls Tryd.prog 149 #[.pointer (some ⟨gp, 0, none⟩)] W fun e w' => e = .returned (.tuple #[]) ∧ ∃ gy' gm', Plat w' B w'.heap.size gp dur [] [] gy' gm' vD (.slice none 0 0) (.slice none 0 0) ∧ Below B W w' ∧ Kept W w' (fun k => B ≤ k ∧ k < s) := by
 obtain ⟨A1, c1, e1⟩ := Kd.R_slice hP.rp
 subst e1
 have HP := Aside0.mk hP
 have HS := Aside0.mk hs
 clear hP hs
 go_enter Tryd.func149, Tryd.ntmps149
 go_wp2_with (first | ((with_reducible refine zn (f := 144) rfl ?_); refine zx (some 4) rfl rfl Tryd.func144 (by kernel_rfl) rfl #[] rfl (by (try simp only [List.map_toArray, List.map_cons, List.map_nil]); first | done | rfl) ?_; refine (newOrd_c W).mono ?_; rintro e w1 ⟨gy', gm', rfl, hgy, hgm, bo, bm, hb1⟩; refine ⟨_, rfl, ?_⟩; have HP1 := Aside0.mk (HP.out.below HS.out hb1); have HB1 := Aside0.mk hb1; have BO := Aside0.mk bo; have BM := Aside0.mk bm; have HGY := Aside0.mk hgy; have HGM := Aside0.mk hgm; have hc1 : w1.cell? ⟨gp, 1, none⟩ = some (.slice A1 pend.length c1) := (ze HP1.out.bp 1).trans rfl; have hf1 := zg HP1.out.bp 1; clear hb1 bo bm hgy hgm) | (refine store_event (t := 45) (p := 6) (v := ?vo_w2) (w1 := (w1.setCell ⟨gp, 1, none⟩ (.slice none 0 0))) ?hg ?ho ?hn ?hr ?_; (case ho => rfl); (case hg => rfl); (case hn => rfl); (case hr => first | (go_simp; done) | (go_simp; rfl)); intro w2 hw2; have BP2 : Aside0 (w2.heap[gp]? = some (.cells #[vD, .slice none 0 0, .pointer (some ⟨gy, 0, none⟩)] 193 (0, 0))) := ⟨by rw [hw2]; exact zy HP1.out.bp 1 _ rfl⟩; have hset1 : ∀ k, k ≠ gp → w2.heap[k]? = w1.heap[k]? := (by intro k hk_; rw [hw2]; exact Below.heap_setCell w1 ⟨gp, 1, none⟩ _ k hk_); have hsz1 : w2.heap.size = w1.heap.size := (by rw [hw2]; simp); have HW2 := Aside0.mk hw2; have HSET1 := Aside0.mk hset1; have HSZ1 := Aside0.mk hsz1; clear hc1 hf1 hw2 hset1 hsz1; have hc2 : w2.cell? ⟨gp, 2, none⟩ = some (.pointer (some ⟨gy, 0, none⟩)) := (ze BP2.out 2).trans rfl; have hf2 := zg BP2.out 2) | ((with_reducible refine gate_store (t := 190) (p := 8) rfl ?_); refine store_event (t := 190) (p := 8) (v := ?vo_w3) (w1 := (w2.setCell ⟨gp, 2, none⟩ (.pointer (some ⟨gy', 0, none⟩)))) ?hg ?ho ?hn ?hr ?_; (case ho => rfl); (case hg => rfl); (case hn => rfl); (case hr => first | (go_simp; done) | (go_simp; rfl)); intro w3 hw3; have BP3 : Aside0 (w3.heap[gp]? = some (.cells #[vD, .slice none 0 0, .pointer (some ⟨gy', 0, none⟩)] 193 (0, 0))) := ⟨by rw [hw3]; exact zy BP2.out 2 _ rfl⟩; have hset2 : ∀ k, k ≠ gp → w3.heap[k]? = w2.heap[k]? := (by intro k hk_; rw [hw3]; exact Below.heap_setCell w2 ⟨gp, 2, none⟩ _ k hk_); have hsz2 : w3.heap.size = w2.heap.size := (by rw [hw3]; simp); have HW3 := Aside0.mk hw3; have HSET2 := Aside0.mk hset2; have HSZ2 := Aside0.mk hsz2; clear hc2 hf2 hw3 hset2 hsz2))
 go_end0
 have hP1 := HP1.out
 have hk : ∀ k, k ≠ gp → w3.heap[k]? = w1.heap[k]? := fun k hk_ => (HSET2.out k hk_).trans (HSET1.out k hk_)
 have hsz : w3.heap.size = w1.heap.size := HSZ2.out.trans HSZ1.out
 have typed : ∀ k q cells, w1.heap[k]? = some (.cells cells q (0, 0)) → q ≠ 193 → k ≠ gp := fun k q cells hc hq e_ => by
  rw [e_, hP1.bp] at hc; injection hc with hc; injection hc with _ hc; exact hq hc.symm
 refine ⟨rfl, gy', gm', ⟨BP3.out, ?_, ?_, ?_, Kd.R_nil _ _ _ _ _, Kd.R_nil _ _ _ _ _, ⟨hP1.pp.1, by have := hP1.pp.2; have := HS.out; have := HB1.out.size; omega⟩, ⟨by have := HGY.out; have := hP1.pp; have := HS.out; omega, by rw [hsz]; exact zw BO.out⟩, ⟨by have := HGM.out; have := hP1.pp; have := HS.out; omega, by rw [hsz]; exact BM.out.lt⟩, fun p hp_ => by cases hp_⟩, ?_, ?_⟩
 ·exact (hk _ (typed _ _ _ BO.out (by decide))).trans BO.out
 ·exact BM.out.move (hk _ (fun e_ => ne_map hP1.bp BM.out (by rw [e_])))
 ·refine Kd.R_mono (Kd.R_move (Kd.R_bound hP1.rd) (fun k hk_ => ?_)) (fun k hk_ => by have := hk_.1; have := HS.out; have := HB1.out.size; omega)
  obtain ⟨_, _, hlt, q, hq, cells, hc⟩ := hk_
  have hq' : q = 5 := by simpa using (show q ∈ [5] from hq)
  subst hq'
  exact hk k (typed _ _ _ hc (by decide))
 ·rw [HW3.out, HW2.out]
  exact Below.setCell (Below.setCell (below_then (Below.refl B W) (by have := hP1.pp; have := HS.out; omega) HB1.out) hP1.pp.1 _) hP1.pp.1 _
 ·rw [HW3.out, HW2.out]
  exact Kept.setCell (Kept.setCell (Kept.of_below HB1.out _) (.inl hP1.pp) _) (.inl hP1.pp) _
def put1 (dur : List Int) (b : Nat) (data : List Int) (c : Nat) : List Int := dur.take (64 * b) ++ data.take c ++ dur.drop (64 * b + c)
theorem put1_len {dur : List Int} {b : Nat} {data : List Int} {c : Nat} (hb : 64 * b + 64 ≤ dur.length) (hc : c ≤ 64) (hd : data.length = 64) : (put1 dur b data c).length = dur.length := by
 unfold put1
 simp only [List.length_append, List.length_take, List.length_drop]
 omega
theorem Plat.afterCopy {W w' : World} {B s gp gD cap : Nat} {dur dur' : List Int} {pend : List S195} {m : List (Int × List Int)} {gy gm : Nat} {vP vK : Value} (h : Plat W B s gp dur pend m gy gm (.slice (some ⟨gD, 0, none⟩) dur.length cap) vP vK) (hl : dur'.length = dur.length) (hr : (Kd.int .u8).R 5 w' B (fun k => k < s) (.slice (some ⟨gD, 0, none⟩) dur.length cap) dur') (hg : W.grownBy w' (some gD)) (hs : s ≤ W.heap.size) : Plat w' B s gp dur' pend m gy gm (.slice (some ⟨gD, 0, none⟩) dur.length cap) vP vK := by
 obtain ⟨cD, hcD⟩ := Kd.R_typed h.rd gD rfl
 have ne : ∀ k q cells, W.heap[k]? = some (.cells cells q (0, 0)) → q ≠ 5 → some k ≠ some gD := fun k q cells hc hq e_ => by
  injection e_ with e_
  rw [e_, hcD] at hc; injection hc with hc; injection hc with _ hc; exact hq hc.symm
 exact {
  bp := (hg.block _ (zw h.bp) (ne _ _ _ h.bp (by decide))).trans h.bp
  bo := (hg.block _ (zw h.bo) (ne _ _ _ h.bo (by decide))).trans h.bo
  bm := h.bm.move (hg.block _ h.bm.lt (fun e_ => ne_map hcD h.bm (by rw [e_])))
  rd := hr
  rp := Kd.R_mono (Kd.R_move (Kd.R_bound h.rp) (fun k hk => hg.block k hk.2.2.1 (fun e_ => hk.1.2 e_))) (fun k hk => hk.1)
  rk := Kd.R_mono (Kd.R_move (Kd.R_bound h.rk) (fun k hk => by
   obtain ⟨_, _, hlt, q, hq, cells, hc⟩ := hk
   have hq' : q = 2 := by simpa using (show q ∈ [2] from hq)
   subst hq'
   exact hg.block k hlt (ne _ _ _ hc (by decide)))) (fun k hk => hk.1)
  pp := h.pp
  po := h.po
  pm := h.pm
  m64 := h.m64 }
theorem exec_copy {o : Oper} {a : Act} {d s : Operand} {w w' : World} {v u v' : Value} (ho : o.op = .call { callee := .builtin .copy, args := #[d, s], argTypes := #[22, 22] }) (hd : a.eval d = v) (hs : a.eval s = u) (hr : (Builtin.copy_ #[22, 22] o.type #[v, u]).run Tryd.prog w = .ok v' w') : (execOp a.eval o).run Tryd.prog w = .ok (.value v') w' := by
 unfold execOp
 simp only [ho, resolve, invoke, builtin, Sem.run_bind, Sem.run_pure, Result.andThen_ok, List.map_toArray, List.map_cons, List.map_nil, hd, hs, hr]
theorem startIn_ {P : Program} {ops : Array Oper} {Q : Exit → Act → World → Prop} {S : World → Prop} {ds : List Nat} {id n nn : Nat} {a : Act} {w : World} (ro : Option Nat) (hQ : ¬ LetsOut Q) (hd : (ops.toList.all fun o => match o.op with | .defer _ => false | _ => true) = true) (l : Array Bool) (hm : P.follows .mixedOrders = true) (hn : ops.size = n) (hl : Array.replicate n false = l) (hS : S w.drew)
  (h : S w.drew → wpAnyLast P .any ops Q S ds n l a w.drew) : (Code.region id ops true).wpIn { Fence.wide with round := ro } nn P Q a w := by
 subst hn
 subst hl
 exact YtjoafknckmoojaaDoorH.regionIn_of hQ ro (fun o ho c he => by have := List.all_eq_true.mp hd o ho; rw [he] at this; cases this) hm (wpAny_of_last _ _ _ _ (h hS))
/-- What the table hands out, one entry after the other. -/
def yl (m : List (Int × List Int)) : List (Int × List Int) := m.map fun p => (p.1, (YtjoafknckmoojaaDoorH.aget m p.1).getD z64)
theorem yl_len (m : List (Int × List Int)) : (yl m).length = m.length := by simp [yl]
theorem yl_at {m : List (Int × List Int)} {k : Nat} (h : k < m.length) : (yl m).take (k + 1) = (yl m).take k ++ [(rd (m.map Prod.fst) (k : Int), (YtjoafknckmoojaaDoorH.aget m (rd (m.map Prod.fst) (k : Int))).getD z64)] := by
 rw [List.take_succ_eq_append_getElem (by rw [yl_len]; exact h)]
 simp [yl, rd, h]
theorem yl_mem {m : List (Int × List Int)} {k : Nat} (h : k < m.length) : (rd (m.map Prod.fst) (k : Int), (YtjoafknckmoojaaDoorH.aget m (rd (m.map Prod.fst) (k : Int))).getD z64) ∈ yl m := by
 have h1 : k < (yl m).length := by rw [yl_len]; exact h
 have h2 : (yl m)[k] = (rd (m.map Prod.fst) (k : Int), (YtjoafknckmoojaaDoorH.aget m (rd (m.map Prod.fst) (k : Int))).getD z64) := by simp [yl, rd, h]
 rw [← h2]
 exact List.getElem_mem h1
theorem run_look64' {W : World} {gm : Nat} {m : List (Int × List Int)} (h : YtjoafknckmoojaaDoorH.MapIs (Value.int .i64) arrV W gm m) (b : Int) :
  (Instr.lookup 243 (.map (some gm)) (.int .i64 b) false).run Tryd.prog W = .ok (arrV ((YtjoafknckmoojaaDoorH.aget m b).getD z64)) W := by
 have hz : ∀ w, (zeroValue 123).run Tryd.prog w = .ok (arrV z64) w := fun w => by
  rw [arrV_z64]; exact (zero_of_info (P := Tryd.prog) (n := 64) (show (Tryd.prog.info? 123).map (fun i => (i.zero, i.size)) = some (some (.agg (Array.replicate 64 (.int .u8 0))), 64) by kernel_rfl)).1 w
 have := YtjoafknckmoojaaDoorH.run_lookup1 (YtjoafknckmoojaaDoorH.int_key Tryd.underlying2) Tryd.underlying243 b (arrV z64) hz h
 rw [this]
 cases YtjoafknckmoojaaDoorH.aget m b <;> rfl
attribute [local go_sem] Oper.semAt_some
set_option maxHeartbeats 4000000 in
set_option maxRecDepth 100000 in
theorem each_g (n : Nat) (w : World) (gy gm : Nat) (AK : Option Addr) (cK : Nat) (m : List (Int × List Int)) (hml : m.length ≤ 1000000) (St : World → Prop)
  (hst : ∀ W, St W → W.heap[gy]? = some (.cells #[.slice AK m.length cK, .map (some gm)] 245 (0, 0)) ∧ YtjoafknckmoojaaDoorH.MapIs (Value.int .i64) arrV W gm m ∧ (Kd.int .i64).C W AK m.length (m.map Prod.fst)) (hkb : ∀ W', YtjoafknckmoojaaDoorH.KeepB w.heap.size w W' → St W') :
  YtjoafknckmoojaaDoorH.Gives Tryd.prog n 147 #[.pointer (some ⟨gy, 0, none⟩)] #[] (fun x : Int × List Int => #[.int .i64 x.1, arrV x.2]) (fun W W' => St W → St W') (fun x _ _ => x ∈ yl m) (fun xs => xs = yl m) (fun _ => True) w.heap.size w := by
 intro l J Jx W hW hWs hJ hJx hY h0
 have hS0 := hkb W hW
 have HST := Aside0.mk hst
 clear hst hkb
 refine callsIn_of_wp Tryd.func147 rfl trivial ?_ rfl
 simp only [Tryd.ntmps147, List.size_toArray, List.length_cons, List.length_nil, Nat.reduceAdd, Nat.reduceSub, Array.replicate_succ, Array.replicate_zero, List.push_toArray, List.append_toArray, List.nil_append, List.cons_append]
 have hc0 : W.cell? ⟨gy, 0, none⟩ = some (.slice AK m.length cK) := (ze (HST.out W hS0).1 0).trans rfl
 gi_wp2
 clear hc0
 gi_loopw [11] (fun i wr => ∃ k : Nat, k ≤ m.length ∧ i = .int .i64 k ∧ J ((yl m).take k) wr ∧ St wr) (fun i _ => m.length - (intOf i).toNat)
 case atStart => exact ⟨0, Nat.zero_le _, rfl, h0, hS0⟩
 case round =>
  obtain ⟨k, hk, rfl, hJs, hSt⟩ := hrel
  obtain ⟨bo, bm, hr⟩ := HST.out wr hSt
  have hc1 : wr.cell? ⟨gy, 1, none⟩ = some (.map (some gm)) := (ze bo 1).trans rfl
  by_cases hlt : k < m.length
  ·obtain ⟨ad, e1, hx⟩ := Kd.at_int hr (k : Int) (by omega) (by omega)
   subst e1
   rw [Int.toNat_natCast] at hx
   have hyy := hY _ _ wr wr hJs (Below.refl _ _) (yl_mem hlt)
   have hlk := run_look64' bm (rd (m.map Prod.fst) (k : Int))
   obtain ⟨v, hv⟩ : ∃ v, v = (YtjoafknckmoojaaDoorH.aget m (rd (m.map Prod.fst) (k : Int))).getD z64 := ⟨_, rfl⟩
   obtain ⟨b, hb⟩ : ∃ b, b = rd (m.map Prod.fst) (k : Int) := ⟨_, rfl⟩
   have HT := Aside0.mk (yl_at hlt)
   rw [← hb] at hv
   rw [← hb, ← hv] at hyy hlk HT
   rw [← hb] at hx
   obtain ⟨fn, tmps, assign, body, hy, hR⟩ := hyy
   dsimp only at hy
   have hlt' : (k : Int) < (m.length : Int) := by omega
   have hk0 : (0 : Int) ≤ (k : Int) := by omega
   have hltb : decide ((k : Int) < (m.length : Int)) = true := decide_eq_true hlt'
   clear bm hr hv hb
   gi_wp2
   refine ⟨fun h_ => by simp [Fence.wide] at h_, hR.mono ?_⟩
   rintro e W3 (⟨rfl, hJ3, hk3⟩ | ⟨rfl, hJx3⟩)
   ·gi_wp2
    go_roundw
    case rel => exact ⟨k + 1, by omega, by (have := wrap64 ((k : Int) + 1)); simp, by rw [HT.out]; exact hJ3, hk3 hSt⟩
    case measure => simp [intOf]; omega
   ·gi_wp2
    refine bodyPost_ret (results_none rfl _ _ _) rfl ?_
    exact ⟨⟨_, rfl⟩, .inr ⟨_, trivial, hJx3⟩⟩
  ·obtain rfl : k = m.length := by omega
   have hltb : decide ((m.length : Int) < (m.length : Int)) = false := decide_eq_false (by omega)
   gi_wp2
   go_end0
   rw [← yl_len m, List.take_length] at hJs
   exact ⟨⟨_, rfl⟩, .inl ⟨_, rfl, hJs⟩⟩
def syncD (dur : List Int) (L : List (Int × List Int)) : List Int := L.foldl (fun D p => put1 D p.1.toNat p.2 64) dur
theorem syncD_snoc (dur : List Int) (L : List (Int × List Int)) (p : Int × List Int) : syncD dur (L ++ [p]) = put1 (syncD dur L) p.1.toNat p.2 64 := by simp [syncD]
theorem syncD_len {dur : List Int} : ∀ (L : List (Int × List Int)), (∀ p ∈ L, 0 ≤ p.1 ∧ 64 * p.1 + 64 ≤ dur.length ∧ p.2.length = 64) → (syncD dur L).length = dur.length := by
 intro L
 induction L generalizing dur with
 | nil => intro _; rfl
 | cons p L ih =>
  intro h
  have h1 := h p (by simp)
  have h2 : (put1 dur p.1.toNat p.2 64).length = dur.length := put1_len (by omega) (by omega) h1.2.2
  have := ih (dur := put1 dur p.1.toNat p.2 64) (fun q hq => by rw [h2]; exact h q (by simp [hq]))
  rw [h2] at this
  exact this
theorem yl_ok {m : List (Int × List Int)} {n : Nat} (h64 : ∀ p ∈ m, p.2.length = 64) (hb : ∀ p ∈ m, 0 ≤ p.1 ∧ 64 * p.1 + 64 ≤ (n : Int)) : ∀ p ∈ yl m, 0 ≤ p.1 ∧ 64 * p.1 + 64 ≤ (n : Int) ∧ p.2.length = 64 := by
 intro p hp
 obtain ⟨q, hq, rfl⟩ := List.mem_map.mp hp
 exact ⟨(hb q hq).1, (hb q hq).2, aget_64 h64 q.1⟩
theorem cells_of_R {W : World} {B gD cap n : Nat} {ok : Nat → Prop} {dur : List Int} (h : (Kd.int .u8).R 5 W B ok (.slice (some ⟨gD, 0, none⟩) n cap) dur) {k : Nat} (hk : gD = k) : ∃ q : TypeId, ∃ _ : True, ∃ _ : True, ∃ _ : True, ∃ cells, W.heap[k]? = some (Obj.cells cells q (0, 0)) := by
 subst hk
 obtain ⟨_, _, _, q, _, cells, hc⟩ := (Kd.R_bound h).1 gD rfl
 exact ⟨q, trivial, trivial, trivial, cells, hc⟩
theorem Plat.putEnd {W : World} {B s gp D : Nat} {dur : List Int} {pend : List S195} {m : List (Int × List Int)} {gy gm : Nat} {vD vP vK : Value} (h : Plat W B s gp dur pend m gy gm vD vP vK) (hD : W.heap[D]? = some (Obj.deferred (some []))) (o : Obj) : Plat (W.putObj D o) B s gp dur pend m gy gm vD vP vK := by
 have ne : ∀ k, W.heap[k]? ≠ some (Obj.deferred (some [])) → (W.putObj D o).heap[k]? = W.heap[k]? := fun k hk => World.putObj_heap_other (fun e => hk (by subst e; exact hD))
 have mv : ∀ k, (∃ q cells, W.heap[k]? = some (Obj.cells cells q (0, 0))) → (W.putObj D o).heap[k]? = W.heap[k]? := fun k ⟨q, cells, hk⟩ => ne k (by rw [hk]; intro e; cases e)
 exact {
  bp := (mv _ ⟨_, _, h.bp⟩).trans h.bp
  bo := (mv _ ⟨_, _, h.bo⟩).trans h.bo
  bm := h.bm.move (ne _ (by obtain ⟨es, c, h1, _⟩ := h.bm; rw [h1]; intro e; cases e))
  rd := Kd.R_mono (Kd.R_move (Kd.R_bound h.rd) (fun k hk => mv k (by obtain ⟨_, _, _, q, _, cells, hc⟩ := hk; exact ⟨q, cells, hc⟩))) (fun k hk => hk.1)
  rp := Kd.R_mono (Kd.R_move (Kd.R_bound h.rp) (fun k hk => mv k (by obtain ⟨_, _, _, q, _, cells, hc⟩ := hk; exact ⟨q, cells, hc⟩))) (fun k hk => hk.1)
  rk := Kd.R_mono (Kd.R_move (Kd.R_bound h.rk) (fun k hk => mv k (by obtain ⟨_, _, _, q, _, cells, hc⟩ := hk; exact ⟨q, cells, hc⟩))) (fun k hk => hk.1)
  pp := h.pp
  po := h.po
  pm := h.pm
  m64 := h.m64 }
def SyncSt (B s gy gm : Nat) (AK : Option Addr) (cK : Nat) (m : List (Int × List Int)) (W : World) : Prop :=
 W.heap[gy]? = some (.cells #[.slice AK m.length cK, .map (some gm)] 245 (0, 0)) ∧ YtjoafknckmoojaaDoorH.MapIs (Value.int .i64) arrV W gm m ∧ (Kd.int .i64).R 2 W B (fun k => k < s) (.slice AK m.length cK) (m.map Prod.fst) ∧ B ≤ gy ∧ gy < s ∧ B ≤ gm ∧ gm < s
theorem SyncSt.move {B s gy gm : Nat} {AK : Option Addr} {cK : Nat} {m : List (Int × List Int)} {W W' : World} (h : SyncSt B s gy gm AK cK m W) (hm : ∀ k, B ≤ k → k < s → W'.heap[k]? = W.heap[k]?) : SyncSt B s gy gm AK cK m W' := by
 obtain ⟨h1, h2, h3, h4, h5, h6, h7⟩ := h
 exact ⟨(hm _ h4 h5).trans h1, h2.move (hm _ h6 h7), Kd.R_mono (Kd.R_move (Kd.R_bound h3) (fun k hk => hm k hk.2.1 hk.1)) (fun k hk => hk.1), h4, h5, h6, h7⟩
theorem Plat.st {W : World} {B s gp : Nat} {dur : List Int} {pend : List S195} {m : List (Int × List Int)} {gy gm cK : Nat} {vD vP : Value} {AK : Option Addr} (h : Plat W B s gp dur pend m gy gm vD vP (.slice AK m.length cK)) : SyncSt B s gy gm AK cK m W := ⟨h.bo, h.bm, h.rk, h.po.1, h.po.2, h.pm.1, h.pm.2⟩
structure SyncI (W0 W w1 : World) (s gp g1 gD cap : Nat) (dur : List Int) (pend : List S195) (m : List (Int × List Int)) (gy gm : Nat) (vP : Value) (AK : Option Addr) (cK : Nat) (L : List (Int × List Int)) (W' : World) : Prop where
 plat : Plat W' W0.heap.size s gp (syncD dur L) pend m gy gm (.slice (some ⟨gD, 0, none⟩) dur.length cap) vP (.slice AK m.length cK)
 a1 : W'.heap[g1]? = some (.cells #[.pointer (some ⟨gp, 0, none⟩)] 116 (0, 0))
 bel : Below W0.heap.size W0 W'
 kep : Kept W W' (fun k => W0.heap.size ≤ k ∧ k < s)
 sz : w1.heap.size ≤ W'.heap.size
 mem : ∀ p ∈ L, p ∈ yl m
theorem SyncI.keep {W0 W w1 : World} {s gp g1 gD cap : Nat} {dur : List Int} {pend : List S195} {m : List (Int × List Int)} {gy gm : Nat} {vP : Value} {AK : Option Addr} {cK : Nat} {L : List (Int × List Int)} {W' W2 : World} (h : SyncI W0 W w1 s gp g1 gD cap dur pend m gy gm vP AK cK L W') (hk : YtjoafknckmoojaaDoorH.KeepB w1.heap.size W' W2) (hs : s ≤ W.heap.size) (hW : W.heap.size ≤ w1.heap.size) (hB : W0.heap.size ≤ w1.heap.size) : SyncI W0 W w1 s gp g1 gD cap dur pend m gy gm vP AK cK L W2 where
 plat := h.plat.move (fun k _ h2 => hk.below.block k (by omega)) (Nat.le_refl _)
 a1 := hk.cells _ _ _ _ h.a1
 bel := h.bel.trans (hk.below.mono hB)
 kep := ⟨Nat.le_trans h.kep.1 hk.below.size, fun i hi hn => (hk.below.block i (by omega)).trans (h.kep.2 i hi hn)⟩
 sz := Nat.le_trans h.sz hk.below.size
 mem := h.mem
set_option maxHeartbeats 8000000 in
set_option maxRecDepth 100000 in
theorem sync_c (W0 W : World) (s gp : Nat) (dur : List Int) (pend : List S195) (m : List (Int × List Int)) (gy gm : Nat) (vD vP vK : Value) (hP : Plat W W0.heap.size s gp dur pend m gy gm vD vP vK) (hs : s ≤ W.heap.size) (hB : Below W0.heap.size W0 W)
  (hmb : ∀ p ∈ m, 0 ≤ p.1 ∧ 64 * p.1 + 64 ≤ (dur.length : Int)) (hml : m.length ≤ 1000000) (hd0 : 0 < dur.length) (hdl : dur.length ≤ 100000000) :
  Calls Tryd.prog 85 #[.pointer (some ⟨gp, 0, none⟩)] W fun e w' => e = .returned (.tuple #[]) ∧ ∃ gy' gm', Plat w' W0.heap.size w'.heap.size gp (syncD dur (yl m)) [] [] gy' gm' vD (.slice none 0 0) (.slice none 0 0) ∧ Below W0.heap.size W0 w' ∧ Kept W w' (fun k => W0.heap.size ≤ k ∧ k < s) := by
 obtain ⟨gD, cap, e0, _, _, _⟩ := Kd.R_form hP.rd hd0
 subst e0
 obtain ⟨AK, cK, e1⟩ := Kd.R_slice hP.rk
 rw [List.length_map] at e1
 subst e1
 have HP0 := Aside0.mk hP
 have HS := Aside0.mk hs
 have HB0 := Aside0.mk hB
 have HMB := Aside0.mk (yl_ok hP.m64 hmb)
 have HDL := Aside0.mk hdl
 have hw0 := blk_new W (.cells #[.pointer (some ⟨gp, 0, none⟩)] 116)
 have hb0 := zd (Below.refl W.heap.size W) (.cells #[.pointer (some ⟨gp, 0, none⟩)] 116)
 have hsz0 : (W.alloc (.cells #[.pointer (some ⟨gp, 0, none⟩)] 116)).heap.size = W.heap.size + 1 := by simp
 have hc1 := ze hw0 0
 have hc2 : (W.alloc (.cells #[.pointer (some ⟨gp, 0, none⟩)] 116)).cell? ⟨gp, 2, none⟩ = some (.pointer (some ⟨gy, 0, none⟩)) := (ze ((hb0.block _ (zw hP.bp)).trans hP.bp) 2).trans rfl
 clear hP hs hB hmb hdl
 refine (callsIn_wide (n := 5)).1 (callsIn_of_wp_marks Tryd.func85 rfl trivial ?_ rfl)
 simp only [Tryd.ntmps85, List.size_toArray, List.length_cons, List.length_nil, Nat.reduceAdd, Nat.reduceSub, Array.replicate_succ, Array.replicate_zero, List.push_toArray, List.append_toArray, List.nil_append, List.cons_append]
 gi_wp2
 clear hc1 hc2
 obtain ⟨w1, hw1⟩ : ∃ w_, W.alloc (Obj.cells #[.pointer (some ⟨gp, 0, none⟩)] 116) = w_ := ⟨_, rfl⟩
 rw [hw1] at hw0 hb0 hsz0 ⊢
 clear hw1
 obtain ⟨g1, hg1⟩ : ∃ g_, W.heap.size = g_ := ⟨_, rfl⟩
 have HG1 : Aside0 (W.heap.size ≤ g1 ∧ w1.heap.size = g1 + 1) := ⟨by omega, by omega⟩
 rw [hg1] at hw0 ⊢
 have HP1 := Aside0.mk (HP0.out.below HS.out hb0)
 have hW0 : W0.heap.size ≤ W.heap.size := HB0.out.size
 have hI0 : SyncI W0 W w1 s gp g1 gD cap dur pend m gy gm vP AK cK [] w1 := ⟨HP1.out, hw0, zm HB0.out hb0, Kept.of_below hb0 _, Nat.le_refl _, by simp⟩
 have hSm : ∀ W1 W2, YtjoafknckmoojaaDoorH.KeepB w1.heap.size W1 W2 → SyncSt W0.heap.size s gy gm AK cK m W1 → SyncSt W0.heap.size s gy gm AK cK m W2 := fun W1 W2 hk h => h.move (fun k _ h2 => hk.below.block k (by have := HS.out; omega))
 refine YtjoafknckmoojaaDoorH.wp_rangeG (gf := 147) (bs := #[.pointer (some ⟨gy, 0, none⟩)]) (lb := #[]) (encs := fun x : Int × List Int => #[.int .i64 x.1, arrV x.2]) rfl (enters_of Tryd.func147 (by kernel_rfl) rfl) (Nat.le_refl _)
  (each_g 4 w1 gy gm AK cK m hml (SyncSt W0.heap.size s gy gm AK cK m) (fun W1 h => ⟨h.1, h.2.1, by have := (Kd.R_reads' h.2.2.1).2.2; rwa [List.length_map] at this⟩) (fun W1 hk => hSm _ _ hk HP1.out.st))
  (fun h k x => k (h x)) (fun W1 W2 hk h => hSm _ _ hk h) (fun _ => rfl)
  (SyncI W0 W w1 s gp g1 gD cap dur pend m gy gm vP AK cK) (fun _ _ _ => False) (fun L W1 W2 h hk => h.keep hk HS.out (by omega) (by omega)) (fun _ _ _ _ h _ => h) hI0
  (fun x a W' => ∃ g, w1.heap.size ≤ g ∧ W'.heap[g]? = some (Obj.cells (x.2.map (Value.int .u8)).toArray 123 (0, 0)) ∧ a = { tmps := #[.pointer (some ⟨gp, 0, none⟩), .pointer (some ⟨g1, 0, none⟩), .int .i64 x.1, .pointer (some ⟨g, 0, none⟩), .pointer (some ⟨gp, 0, none⟩), .pointer (some ⟨gp, 0, none⟩), .pointer (some ⟨gp, 2, none⟩), .pointer (some ⟨gy, 0, none⟩), .func (.func 147) #[.pointer (some ⟨gy, 0, none⟩)] #[], .int .i64 x.1, arrV x.2, undef, undef, undef, undef, undef, undef, undef], defers := [] })
  (fun x a W1 W2 ⟨g, h1, h2, h3⟩ hk => ⟨g, h1, hk.cells _ _ _ _ h2, h3⟩) ?assign ?body (fun _ _ _ _ h _ _ => h) ?done (fun _ _ _ _ _ _ h _ => h.elim)
 case assign =>
  intro l_ x Wp W' K hpre hsz hK
  have H64 := Aside0.mk (HMB.out x hpre).2.2
  have HSZ := Aside0.mk hsz
  clear hpre hsz
  apply wpIn_seq_k
  intro K1 hK1
  refine YtjoafknckmoojaaDoorH.regionIn_plain (id := 2) (by rintro ⟨_, _, h_⟩; exact h_) (some l_) (by rfl) ?_
  go_wp2
  refine YtjoafknckmoojaaDoorH.regionIn_plain (id := 3) (by rintro ⟨_, _, h_⟩; exact h_) (some l_) (by rfl) ?_
  go_wp2_with (first | ((with_reducible refine zr (N := 3) rfl ?_); refine Go.Proofs.YtjoafknckmoojaaDoorH.alloc_arr rfl (t := 123) rfl (N := 3) rfl (zs := (Array.replicate 64 (.int .u8 0))) (n := 64) (by kernel_rfl) ?_; intro g hg w2 hA hb _; have HA := Aside0.mk hA; have HG := Aside0.mk hg; have HB := Aside0.mk hb; clear hA hg hb) | (refine Go.Proofs.YtjoafknckmoojaaDoorH.store_arr (g := g) (cells := (x.2.map (Value.int .u8)).toArray) rfl (t := 123) rfl rfl rfl rfl HA.out (by rw [arr_size H64.out]; kernel_rfl) (by rw [arr_size H64.out]; rfl) (arr_one x.2) ?_; intro w3 hA3 hg3; have HA3 := Aside0.mk hA3; have HG3 := Aside0.mk hg3; clear hA3 hg3))
  refine hK _ _ (pw_below_grown HB.out (some g) HB.out.size HG3.out (fun k_ hk_ => by injection hk_ with hk_; rw [← hk_, HG.out]; exact Nat.le_refl _)) ⟨g, by rw [HG.out]; exact HSZ.out, HA3.out, ?_⟩
  rfl
 case body =>
  rintro l_ L x a₁ Wp wr ⟨gx, hgx, hxa, rfl⟩ hWp hIp hkp hsz hpre
  have hI1 := hIp.keep hkp HS.out (by omega) (by omega)
  clear hIp hkp
  have HX := Aside0.mk (HMB.out x hpre)
  have HMEM : Aside0 (∀ p ∈ L ++ [x], p ∈ yl m) := ⟨fun p hp => by rcases List.mem_append.mp hp with h_ | h_; exact hI1.mem p h_; rw [List.mem_singleton.mp h_]; exact hpre⟩
  have HCL := Aside0.mk (syncD_len L (fun p hp => HMB.out p (hI1.mem p hp)))
  have HP := Aside0.mk hI1.plat
  have HA1 := Aside0.mk hI1.a1
  have HB := Aside0.mk hI1.bel
  have HKP := Aside0.mk hI1.kep
  have HSz := Aside0.mk hI1.sz
  have HXA := Aside0.mk hxa
  have HCD := Aside0.mk (syncD_snoc dur L x)
  clear hI1 hpre hWp hsz hxa
  obtain ⟨xb0, xl⟩ := x
  obtain ⟨rb, rfl⟩ : ∃ n : Nat, xb0 = (n : Int) := ⟨xb0.toNat, by have := HX.out.1; simp only at this; omega⟩
  have HBi : Aside0 (64 * rb + 64 ≤ dur.length) := ⟨by have := HX.out.2.1; simp only at this; omega⟩
  have H64 : Aside0 (xl.length = 64) := ⟨HX.out.2.2⟩
  simp only at HXA HCD
  rw [Int.toNat_natCast] at HCD
  obtain ⟨dd, hdd⟩ : ∃ d_, d_ = syncD dur L := ⟨_, rfl⟩
  rw [← hdd] at HCD HCL HP
  clear hdd
  apply wpIn_block
  refine startIn_ (some l_) (by rintro ⟨_, _, h_⟩; exact h_) (by kernel_rfl) (n := 5) (S := fun w' => w'.cell? ⟨g1, 0, none⟩ = some (.pointer (some ⟨gp, 0, none⟩))) (ds := []) #[false, false, false, false, false] (by kernel_rfl) rfl rfl ((ze (zl HA1.out) 0).trans rfl) (fun hHeld => ?_)
  have HPd := Aside0.mk (HP.out.drew); have HAd := Aside0.mk (zl HA1.out); have HXd := Aside0.mk (zl HXA.out); have HBd := Aside0.mk (below_drew HB.out); have HKd := Aside0.mk (Kept.drew HKP.out); have HOd := Aside0.mk (KeepsOthers.drew wr); have HSd := Aside0.mk (show wr.heap.size ≤ wr.drew.heap.size from Nat.le_refl _); generalize wr.drew = w7 at HPd HAd HXd HBd HKd HOd HSd hHeld ⊢
  refine zv (i := 1) (N := some 12) (v := ?_) (a' := ?_) #[false, true, false, false, false] rfl rfl (by kernel_rfl) (fun _ _ _ h => h) (Or.inl ⟨by rfl, ?_⟩) ?_ ?_
  rotate_left
  ·intro w'
   go_simp
   with_reducible rfl
  rotate_left
  ·simp only [Act.put, List.setIfInBounds_toArray, List.set_cons_zero, List.set_cons_succ, zp, zq]
   rfl
  refine zv (i := 3) (N := some 14) (v := .slice (some ⟨gx, 0, none⟩) xl.length xl.length) (a' := ?_) #[false, true, false, true, false] rfl rfl (by kernel_rfl) (fun _ _ _ h => h) (Or.inl ⟨by rfl, ?_⟩) ?_ ?_
  ·intro w'
   exact run_slice64 (by rfl) (by rfl) H64.out
  rotate_left
  ·simp only [Act.put, List.setIfInBounds_toArray, List.set_cons_zero, List.set_cons_succ, zp, zq]
   rfl
  refine take_ (i := 0) (N := some 11) (v := ?_) (a' := ?_) #[true, true, false, true, false] rfl rfl (by kernel_rfl) (fun _ _ _ h => h) (Or.inl ⟨by rfl, ?_⟩) hHeld ?_ ?_
  rotate_left
  ·intro w' s0
   go_simp
   with_reducible rfl
  rotate_left
  ·simp only [Act.put, List.setIfInBounds_toArray, List.set_cons_zero, List.set_cons_succ, zp, zq]
   rfl
  refine one_ (i := 2) (N := some 13) #[true, true, true, true, false] rfl rfl (by kernel_rfl) (by decide) (fun K hK => ?_)
  refine goes_ Tryd.func148 (by kernel_rfl) rfl #[.pointer (some ⟨gp, 0, none⟩), .int .i64 (rb : Int)] (by rfl) rfl rfl (by (try simp only [List.map_toArray, List.map_cons, List.map_nil]); first | done | rfl) ?_
  refine (place_c w7 W0.heap.size s gp dd pend m gy gm _ _ (.slice AK m.length cK) rb HPd.out (by have := HBi.out; have := HCL.out; omega) (by have := HDL.out; have := HCL.out; omega)).mono ?_
  rintro e w8 ⟨gD2, cap2, hvD, hcap, rfl, rfl⟩
  injection hvD with e1_ e2_ e3_
  injection e1_ with e1_
  injection e1_ with e1_
  subst e1_ e3_
  clear e2_ hcap
  refine ⟨_, rfl, ?_⟩
  refine hK.out _ _ ((ze HAd.out 0).trans rfl) (fun hHeld => ?_)
  clear hK K
  refine norm_ (a' := ?_) ?_ ?_
  rotate_left
  ·show Act.put _ (some 13) _ = _
   simp only [Act.put, List.setIfInBounds_toArray, List.set_cons_zero, List.set_cons_succ, zp, zq]
   rfl
  refine one_ (i := 4) (N := some 15) #[true, true, true, true, true] rfl rfl (by kernel_rfl) (by decide) (fun K hK => ?_)
  have hP7 := HPd.out
  rw [← HCL.out] at hP7
  have hbd_ := HBi.out
  have hcl_ := HCL.out
  have h64_ := H64.out
  have hct_ := read_arr HXd.out H64.out
  obtain ⟨w9, hrun, hR9, hg9⟩ := copy_mid (ty := 3) (off := 64 * rb) (dl := 64) (dcap := cap - 64 * rb) (c := xl.length) hP7.rd hct_ (by omega)
  refine value_ (w1 := w9) (v := _) (by rfl) rfl (exec_copy (by rfl) (by rfl) (by rfl) hrun) ?_
  have hput : dd.take (64 * rb) ++ xl.take (min xl.length 64) ++ dd.drop (64 * rb + min xl.length 64) = put1 dd rb xl 64 := by rw [h64_, Nat.min_self]; rfl
  rw [hput] at hR9
  have hP9 := hP7.afterCopy (put1_len (by omega) (by omega) H64.out) hR9 hg9 (by have := HS.out; have := HSz.out; have := HSd.out; have := HG1.out; omega)
  rw [HCL.out, ← HCD.out] at hP9
  have HPN := Aside0.mk hP9
  have HBN := Aside0.mk (pw_below_grown HBd.out (some gD) HBd.out.size hg9 (fun k_ hk_ => Kd.R_base hP7.rd k_ hk_))
  have HSN := Aside0.mk (Nat.le_trans HSd.out hg9.size)
  have HKN := Aside0.mk (Kept.of_grown hg9 HKd.out (fun k_ hk_ => .inl ⟨Kd.R_base hP7.rd k_ hk_, hP7.rd.1 k_ hk_⟩))
  have ne1 : some g1 ≠ some gD := fun e_ => by injection e_ with e_; have h1_ := hP7.rd.1 gD rfl; have h2_ := HG1.out; have h3_ := HS.out; omega
  have HAN := Aside0.mk (zz HAd.out hg9 ne1)
  have HON := Aside0.mk (HOd.out.trans (KeepsOthers.of_grownBy hg9 (fun j_ o_ hj_ ho_ => by injection hj_ with hj_; subst hj_; obtain ⟨_, _, _, _, cells_, hcl9⟩ := cells_of_R hP7.rd rfl; rw [ho_] at hcl9; cases hcl9; rfl)))
  clear hct_ hP7 hbd_ hcl_ h64_ hrun hR9 hg9 hput hP9 ne1
  refine hK.out _ _ ((ze HAN.out 0).trans rfl) (fun hHeld => ?_)
  clear hK K
  refine norm_ (a' := ?_) ?_ ?_
  rotate_left
  ·show Act.put _ (some 15) _ = _
   simp only [Act.put, List.setIfInBounds_toArray, List.set_cons_zero, List.set_cons_succ, zp, zq]
   rfl
  refine done_ (by kernel_rfl) ?_
  refine ⟨HON.out, fun _ => HPN.out.st, ⟨HPN.out, HAN.out, HBN.out, HKN.out, ?_, HMEM.out⟩⟩
  have h1_ := HSz.out
  have h2_ := HSN.out
  omega
 case done =>
  rintro D xs wd hD rfl hI hdef
  have HI := Aside0.mk hI
  have HDF := Aside0.mk hdef
  have HDD := Aside0.mk hD
  have hc1 : wd.cell? ⟨g1, 0, none⟩ = some (.pointer (some ⟨gp, 0, none⟩)) := (ze hI.a1 0).trans rfl
  clear hI hdef hD
  gi_wp2_with (first | (refine ⟨trivial, ?_⟩; gi_at_call 149; refine (callsIn_wide.2 (settled_c wd W0.heap.size s gp _ pend m gy gm _ _ _ HI.out.plat (by have := HI.out.sz; have := HG1.out; have := HS.out; omega))).mono ?_; rintro e w2 ⟨rfl, gy', gm', hP2, hb2, hk2⟩; have HP2 := Aside0.mk hP2; have HB2 := Aside0.mk hb2; have HK2 := Aside0.mk hk2; clear hP2 hb2 hk2) | (refine ⟨fun h_ => by simp [Fence.wide] at h_, ?_⟩))
  have hDn := (show w1.heap.size ≤ D ∧ W.heap.size ≤ g1 ∧ w1.heap.size = g1 + 1 from ⟨HDD.out, HG1.out⟩)
  have hd2 : w2.heap[D]? = some (Obj.deferred (some [])) := (HK2.out.2 D (zw HDF.out) (fun h_ => by have := HS.out; omega)).trans HDF.out
  refine ⟨_, run_takeDeferred hd2, ?_⟩
  refine ⟨_, results_none rfl _ _ _, ?_⟩
  have kb := YtjoafknckmoojaaDoorH.KeepB.put (B := W0.heap.size) (.deferred none) hd2 rfl (by omega)
  refine ⟨rfl, ⟨gy', gm', ?_⟩, (HI.out.bel.trans HB2.out).trans kb.below, ?_⟩
  ·have hp := HP2.out.putEnd hd2 (.deferred none)
   rw [World.putObj_size]; exact hp
  ·have hk3 := HI.out.kep.then_ HK2.out (fun k_ h_ => .inl h_)
   exact ⟨Nat.le_trans hk3.1 kb.below.size, fun i hi hn => (World.putObj_heap_other (by omega)).trans (hk3.2 i hi hn)⟩
def padB (l : List Int) : List Int := l ++ List.replicate (64 - l.length) 0
theorem padB_len {l : List Int} (h : l.length ≤ 64) : (padB l).length = 64 := by rw [padB, List.length_append, List.length_replicate]; omega
def fmtM (img blk : List Int) : List (Int × List Int) := [(2, padB img), (1, blk)]
theorem fmt_bd {n : Nat} {img blk : List Int} (h : 256 ≤ n) : ∀ p ∈ fmtM img blk, 0 ≤ p.1 ∧ 64 * p.1 + 64 ≤ (n : Int) := by
 intro p hp
 simp only [fmtM, List.mem_cons, List.not_mem_nil, or_false] at hp
 rcases hp with rfl | rfl
 ·exact ⟨by show (0 : Int) ≤ 2; decide, by show 64 * (2 : Int) + 64 ≤ _; omega⟩
 ·exact ⟨by show (0 : Int) ≤ 1; decide, by show 64 * (1 : Int) + 64 ≤ _; omega⟩
theorem fmt_64 {img blk : List Int} (h : img.length ≤ 64) (hb : blk.length = 64) : ∀ p ∈ fmtM img blk, p.2.length = 64 := by
 intro p hp
 simp only [fmtM, List.mem_cons, List.not_mem_nil, or_false] at hp
 rcases hp with rfl | rfl
 ·exact padB_len h
 ·exact hb
theorem drawn_below {w w' : World} (h : Drawn0 w w') : Below w.heap.size w w' := by
 obtain ⟨⟨n, rfl⟩⟩ := h
 exact zb (Below.refl _ _) n
theorem below_under {A B C w : World} (h : Below A.heap.size A B) (k : Below B.heap.size B C) (l : Below A.heap.size C w) : Below A.heap.size A w := (below_then h h.size k).trans l
theorem Kd.R_kept {α : Type} {d : Kd α} {e B : Nat} {W w' : World} {ok : Nat → Prop} {v : Value} {xs : List α} {q : Nat → Prop} (h : d.R e W B ok v xs) (hk : Kept W w' q) (hn : ∀ k, B ≤ k → q k → False) : d.R e w' B ok v xs := Kd.R_mono (Kd.R_move (Kd.R_bound h) (fun k hk_ => hk.2 k hk_.2.2.1 (hn k hk_.2.1))) (fun _ hk_ => hk_.1)
set_option maxHeartbeats 4000000 in
set_option maxRecDepth 100000 in
theorem copy_midT {T_ : TypeId} {W : World} {B gD cap off dl dcap m c : Nat} {ty : TypeId} {ok : Nat → Prop} {dur ys : List Int} {A : Option Addr} (h : (Kd.int .u8).R T_ W B ok (.slice (some ⟨gD, 0, none⟩) dur.length cap) dur) (hr : (Kd.int .u8).C W A m ys) (ho : off + min m dl ≤ dur.length) :
  ∃ w', (Builtin.copy_ #[22, 22] ty #[.slice (some ⟨gD, off, none⟩) dl dcap, .slice A m c]).run Tryd.prog W = .ok (goInt ((min m dl : Nat) : Int)) w' ∧ (Kd.int .u8).R T_ w' B ok (.slice (some ⟨gD, 0, none⟩) dur.length cap) (dur.take off ++ ys.take (min m dl) ++ dur.drop (off + min m dl)) ∧ W.grownBy w' (some gD) := by
 have ht := Tryd.underlying22
 have hinfo : (Tryd.prog.info? 5).map (·.size) = some 1 := by kernel_rfl
 have hR := Kd.reads_of_C (enc := Value.int .u8) (d := (0 : Int)) (h1 := fun _ => rfl) hr
 have hm : ys.length = m := hR.1
 have hown := Kd.own_of_R (enc := Value.int .u8) (h1 := fun _ => rfl) h
 rcases Nat.eq_zero_or_pos (min m dl) with h0 | hp
 ·refine ⟨W, ?_, by rw [h0, List.take_zero, List.append_nil, Nat.add_zero, List.take_append_drop]; exact h, World.grownBy.refl W _⟩
  rw [h0]
  exact run_copy_none W _ _ ty _ (some ⟨gD, off, none⟩) A dl dcap m c ht hinfo h0
 ·obtain ⟨ad, hA, hc⟩ := hR.2.2 (by omega)
  rcases hown.2 with ⟨hv, hx0⟩ | ⟨g, cap2, cur, hv, hb, hh, hnc, hcm, hcs, htake⟩
  ·cases hv
  ·injection hv with hv1 _ hv3
   injection hv1 with hv1
   injection hv1 with hv1
   subst hv1 hv3
   have hcs1 : cur.size = cap := by omega
   have hkl : (encs (Value.int .u8) (ys.take (min m dl))).length = min m dl := by rw [encs_length, List.length_take]; omega
   have hsrc : ∀ j u, (encs (Value.int .u8) (ys.take (min m dl)))[j]? = some u → W.cell? (ad.add j) = some u := by
    intro j u hu
    have hj : j < (ys.take (min m dl)).length := by
     rcases Nat.lt_or_ge j (ys.take (min m dl)).length with h | h
     ·exact h
     ·rw [List.getElem?_eq_none (by rw [encs_length]; exact h)] at hu
      cases hu
    have hjm : j < min m dl := by rw [List.length_take] at hj; omega
    rw [encs_get (d := (0 : Int)) _ j hj] at hu
    rw [hc j (by omega), ← hu]
    simp [List.getD_eq_getElem?_getD, hjm]
   have hrun := run_copy_cells (P := Tryd.prog) W 22 22 ty _ gD off dl dcap ad m c (encs (Value.int .u8) (ys.take (min m dl))) ht hinfo (by rw [hkl]) hsrc
    (fun j hj => by rw [cell_of_row W gD _ cur _ (0, 0) hh]; simp; omega) (fun j _ => zg hh _) (by intro u hu; simp only [encs, List.mem_map] at hu; obtain ⟨q, _, rfl⟩ := hu; rfl)
   obtain ⟨cur', h3, h4, h5⟩ := setCells_row (encs (Value.int .u8) (ys.take (min m dl))) off W cur hh (by rw [hkl]; omega)
   obtain ⟨s1, s2, s3, s4⟩ := setCells_same gD (encs (Value.int .u8) (ys.take (min m dl))) off W
   refine ⟨_, by rw [hA, hrun, hkl], Kd.R_of_own (enc := Value.int .u8) (h1 := fun _ => rfl) ?_ h.1, ⟨s1, s2, s3, by rw [s4]; exact Nat.le_refl _, fun k _ hk => setCells_far _ _ k (fun he => hk (by rw [he]))⟩⟩
   have hln : (dur.take off ++ ys.take (min m dl) ++ dur.drop (off + min m dl)).length = dur.length := by
    simp only [List.length_append, List.length_take, List.length_drop]
    omega
   rw [hln]
   refine ⟨by rw [encs_length, hln, Nat.mul_one], .inr ⟨gD, cap, cur', rfl, hb, h3, hnc, hcm, by rw [h4, hcs], ?_⟩⟩
   have htk : cur.toList.take dur.length = encs (Value.int .u8) dur := by rw [← htake, Nat.mul_one]
   have e1 : cur.toList.take off = encs (Value.int .u8) (dur.take off) := by
    have : (cur.toList.take dur.length).take off = cur.toList.take off := by rw [List.take_take]; congr 1; omega
    rw [← this, htk]; simp [encs, List.map_take]
   have e2 : (cur.toList.drop (off + min m dl)).take (dur.length - (off + min m dl)) = encs (Value.int .u8) (dur.drop (off + min m dl)) := by
    have : (cur.toList.take dur.length).drop (off + min m dl) = (cur.toList.drop (off + min m dl)).take (dur.length - (off + min m dl)) := by rw [List.drop_take]
    rw [← this, htk]; simp [encs, List.map_drop]
   rw [h5, hkl, e1, Nat.mul_one]
   have l1 : (encs (Value.int .u8) (dur.take off)).length = off := by rw [encs_length, List.length_take]; omega
   rw [List.take_append, List.take_of_length_le (by rw [List.length_append, l1, hkl]; omega), List.length_append, l1, hkl, e2, encs_append, encs_append]

theorem zcopy {W : World} {g7 c : Nat} {ty : TypeId} {ys : List Int} {A : Option Addr} (h : W.heap[g7]? = some (.cells (Array.replicate 64 (.int .u8 0)) 123 (0, 0))) (hr : (Kd.int .u8).C W A ys.length ys) (hl : ys.length ≤ 64) :
  ∃ w', (Builtin.copy_ #[22, 22] ty #[.slice (some ⟨g7, 0, none⟩) 64 64, .slice A ys.length c]).run Tryd.prog W = .ok (goInt ((min ys.length 64 : Nat) : Int)) w' ∧ (Kd.int .u8).R 123 w' g7 (fun _ => True) (.slice (some ⟨g7, 0, none⟩) (padB ys).length 64) (padB ys) ∧ W.grownBy w' (some g7) := by
 have hz : W.heap[g7]? = some (.cells ((List.replicate 64 (0 : Int)).map (Value.int .u8)).toArray 123 (0, 0)) := by rw [h, List.map_replicate, List.toArray_replicate]
 have hR := Go.Proofs.YtjoafknckmoojaaDoorH.R_of_arr (Value.int .u8) (fun _ => rfl) (ok := fun _ => True) (base := g7) hz (Nat.le_refl _) trivial (by simp) (by simp)
 have hR' : (Kd.int .u8).R 123 W g7 (fun _ => True) (.slice (some ⟨g7, 0, none⟩) (List.replicate 64 (0 : Int)).length 64) (List.replicate 64 (0 : Int)) := hR
 obtain ⟨w', h1, h2, h3⟩ := copy_midT (ty := ty) (off := 0) (dl := 64) (dcap := 64) (c := c) hR' hr (by rw [List.length_replicate]; omega)
 have e1 : ((List.replicate 64 (0 : Int)).take 0 ++ ys.take (min ys.length 64) ++ (List.replicate 64 (0 : Int)).drop (0 + min ys.length 64)) = padB ys := by
  rw [Nat.min_eq_left hl, List.take_zero, List.nil_append, List.take_length, List.drop_replicate, Nat.zero_add, padB]
 rw [e1, List.length_replicate] at h2
 refine ⟨w', h1, ?_, h3⟩
 rw [padB_len hl]; exact h2
def tr0 : List S92 := [⟨(⟨#[47]⟩ : ByteArray), (⟨#[]⟩ : ByteArray), 0, 0, 0, 0, 0⟩]
theorem cfg_ok {a0_0 a0_1 : Int} (h : 1 ≤ a0_0 ∧ a0_0 ≤ 64 ∧ 1 ≤ a0_1 ∧ a0_1 ≤ 64) : impl_Config_valid.f a0_0 a0_1 = some true ∧ impl_Config_blocks.f a0_0 a0_1 = some (2 + 2 * (a0_0 + a0_1)) ∧ impl_Config_area.f a0_0 a0_1 0 false = some (2, a0_0) ∧ impl_NewDisk.f (2 + 2 * (a0_0 + a0_1)) = some (List.replicate (64 * (2 + 2 * (a0_0 + a0_1))).toNat 0, []) := by
 have w1 : wrap64 (a0_0 + a0_1) = a0_0 + a0_1 := by unfold wrap64; omega
 have w2 : wrap64 (2 * (a0_0 + a0_1)) = 2 * (a0_0 + a0_1) := by unfold wrap64; omega
 have w3 : wrap64 (2 + 2 * (a0_0 + a0_1)) = 2 + 2 * (a0_0 + a0_1) := by unfold wrap64; omega
 have w4 : wrap64 ((2 + 2 * (a0_0 + a0_1)) * 64) = 64 * (2 + 2 * (a0_0 + a0_1)) := by unfold wrap64; omega
 refine ⟨?_, ?_, ?_, ?_⟩
 ·unfold impl_Config_valid.f
  rw [if_pos (by omega), if_pos (by omega), if_pos (by omega), decide_eq_true h.2.2.2]
 ·unfold impl_Config_blocks.f
  rw [w1, w2, w3]
 ·unfold impl_Config_area.f
  rw [if_neg (by decide), w1, Int.zero_mul, show wrap64 0 = 0 by unfold wrap64; omega, show wrap64 (2 + 0) = 2 by unfold wrap64; omega]
 ·unfold impl_NewDisk.f
  rw [if_neg (by omega), if_neg (by omega), w4, if_pos (by omega), if_pos (by omega)]
theorem cfg_no {a0_0 a0_1 : Int} (h : ¬ (1 ≤ a0_0 ∧ a0_0 ≤ 64 ∧ 1 ≤ a0_1 ∧ a0_1 ≤ 64)) : impl_Config_valid.f a0_0 a0_1 = some false := by
 unfold impl_Config_valid.f
 by_cases h1 : a0_0 ≥ 1
 ·rw [if_pos h1]
  by_cases h2 : a0_0 ≤ 64
  ·rw [if_pos h2]
   by_cases h3 : a0_1 ≥ 1
   ·rw [if_pos h3, decide_eq_false (by omega)]
   ·rw [if_neg h3]
  ·rw [if_neg h2]
 ·rw [if_neg h1]
theorem blkLen {k : Nat} {a0 a1 a2 a3 a4 : Int} {b : List Int} (h : impl_Super_block.f k a0 a1 a2 a3 a4 = some b) : b.length = 64 := by
 unfold impl_Super_block.f at h
 obtain ⟨r_, _, h⟩ := Option.bind_eq_some_iff.mp h
 split at h
 ·rename_i h64; rw [← Option.some.inj h]; exact h64
 ·cases h
def impl_FormatDisk.f (k : Nat) (a0_0 a0_1 : Int) : Option (List Int × List S195) := if 1 ≤ a0_0 ∧ a0_0 ≤ 64 ∧ 1 ≤ a0_1 ∧ a0_1 ≤ 64 then ((impl_EncodeTree.f k tr0).bind fun img => (impl_Crc.f k img).bind fun crc => (impl_Super_block.f k 1 0 0 (img.length : Int) crc).bind fun blk => if img.length ≤ 64 then some (syncD (List.replicate (64 * (2 + 2 * (a0_0 + a0_1))).toNat 0) (yl (fmtM img blk)), []) else none) else some ([], [])
theorem impl_FormatDisk.mono : ∀ a0_0 a0_1 k, LeO (impl_FormatDisk.f k a0_0 a0_1) (impl_FormatDisk.f (k + 1) a0_0 a0_1) := by
 intro a0_0 a0_1 k
 unfold impl_FormatDisk.f
 exact LeO.ite (LeO.bind (impl_EncodeTree.mono _ _) (fun _ => LeO.bind (impl_Crc.mono _ _) (fun _ => LeO.bind (impl_Super_block.mono _ _ _ _ _ _) (fun _ => LeO.refl _)))) (LeO.refl _)
set_option maxHeartbeats 8000000 in
set_option maxRecDepth 100000 in
theorem impl_FormatDisk.calls (k : Nat) (a0_0 : Int) (a0_1 : Int) (r1 : List Int) (r2 : List S195) (w : World) (h : impl_FormatDisk.f k a0_0 a0_1 = some (r1, r2)) (hGMAX_ : Go.Proofs.YtjoafknckmoojaaDoorH.GFMAX w) (hGNIB_ : Go.Proofs.YtjoafknckmoojaaDoorH.GFNIB w) :
  Calls Tryd.prog 26 #[.agg #[.int .i64 a0_0, .int .i64 a0_1]] w fun e w' => ∃ v0_ v1_ : Value, e = .returned (.agg #[v0_, v1_]) ∧ Kd.R (Kd.int .u8) 5 w' w.heap.size (fun _ => True) v0_ r1 ∧ Kd.S k195 195 w' w.heap.size (fun k_ => some k_ ≠ (v0_ : Value).ownBlock) v1_ r2 ∧ Below w.heap.size w w' := by
 have HGM := Aside0.mk hGMAX_
 have HGN := Aside0.mk hGNIB_
 clear hGMAX_ hGNIB_
 unfold impl_FormatDisk.f at h
 split at h
 ·rename_i hv
  obtain ⟨hv1, hv2, hv3, hv4⟩ := cfg_ok hv
  have HV := Aside0.mk hv1
  have HAR := Aside0.mk hv3
  obtain ⟨nb, hnb⟩ : ∃ x, x = 2 + 2 * (a0_0 + a0_1) := ⟨_, rfl⟩
  obtain ⟨dur, hdu⟩ : ∃ x, x = List.replicate (64 * (2 + 2 * (a0_0 + a0_1))).toNat (0 : Int) := ⟨_, rfl⟩
  have HD : Aside0 (256 ≤ dur.length) := ⟨by rw [hdu, List.length_replicate]; omega⟩
  have HDL : Aside0 (dur.length ≤ 100000000) := ⟨by rw [hdu, List.length_replicate]; omega⟩
  rw [← hdu, ← hnb] at hv4
  rw [← hnb] at hv2
  rw [← hdu] at h
  have HNB := Aside0.mk hv2
  have HND := Aside0.mk hv4
  clear hv1 hv2 hv3 hv4 hnb hdu hv
  obtain ⟨img, hi, h⟩ := Option.bind_eq_some_iff.mp h
  obtain ⟨crc, hc, h⟩ := Option.bind_eq_some_iff.mp h
  obtain ⟨blk, hb, h⟩ := Option.bind_eq_some_iff.mp h
  have HE := Aside0.mk hi
  have HCR := Aside0.mk hc
  have HBK := Aside0.mk hb
  have HBL := Aside0.mk (blkLen hb)
  clear hi hc hb
  split at h
  ·rename_i hil
   have HIL := Aside0.mk hil
   clear hil
   simp only [Option.some.injEq, Prod.mk.injEq] at h
   obtain ⟨rfl, rfl⟩ := h
   go_enter Tryd.func26, Tryd.ntmps26
   go_wp2_with (first | ((with_reducible refine zr (N := 1) rfl ?_); refine Go.Proofs.YtjoafknckmoojaaDoorH.box_arr (cs := #[.int .i64 a0_0, .int .i64 a0_1]) rfl (t := 49) rfl (N := 1) rfl rfl ?_; intro g1 hg1 w1 hA1 hb_; have HA1 := Aside0.mk hA1; have HB1 := Aside0.mk hb_; clear hA1 hb_ hg1) | ((with_reducible refine zr (N := 2) rfl ?_); refine Go.Proofs.YtjoafknckmoojaaDoorH.alloc_arr rfl (t := 47) rfl (N := 2) rfl (zs := #[.slice none 0 0, .slice none 0 0]) (n := 2) (by kernel_rfl) ?_; intro g2 hg2 w2 hA2 hb_ _; have HA2 := Aside0.mk hA2; have HA1_2 := Aside0.mk ((hb_.block _ (zw HA1.out)).trans HA1.out); have HB2 := Aside0.mk (zm HB1.out hb_); have HGE2 := Aside0.mk (show w.heap.size ≤ g2 by (rw [hg2]; exact HB1.out.size)); have hc10 : w2.cell? ⟨g1, 0, none⟩ = some (.int .i64 a0_0) := (ze HA1_2.out 0).trans rfl; have hc11 : w2.cell? ⟨g1, 1, none⟩ = some (.int .i64 a0_1) := (ze HA1_2.out 1).trans rfl; clear hA2 hb_ hg2) | ((with_reducible refine zn (f := 78) rfl ?_); refine zx (some 9) rfl rfl Tryd.func78 (by kernel_rfl) rfl #[.agg #[.int .i64 a0_0, .int .i64 a0_1]] rfl (by (try simp only [List.map_toArray, List.map_cons, List.map_nil]); first | done | rfl) ?_; refine (impl_Config_valid.calls a0_0 a0_1 _ w2 HV.out).mono ?_; rintro e w3 ⟨rfl, hb_⟩; refine ⟨_, rfl, ?_⟩; have HA1_3 := Aside0.mk ((hb_.block _ (zw HA1_2.out)).trans HA1_2.out); have HA2_3 := Aside0.mk ((hb_.block _ (zw HA2.out)).trans HA2.out); have HB3 := Aside0.mk (zm HB2.out hb_); clear hb_ hc10 hc11; have hc10 : w3.cell? ⟨g1, 0, none⟩ = some (.int .i64 a0_0) := (ze HA1_3.out 0).trans rfl; have hc11 : w3.cell? ⟨g1, 1, none⟩ = some (.int .i64 a0_1) := (ze HA1_3.out 1).trans rfl) | ((with_reducible refine zn (f := 81) rfl ?_); refine zx (some 13) rfl rfl Tryd.func81 (by kernel_rfl) rfl #[.agg #[.int .i64 a0_0, .int .i64 a0_1]] rfl (by (try simp only [List.map_toArray, List.map_cons, List.map_nil]); first | done | rfl) ?_; refine (impl_Config_blocks.calls a0_0 a0_1 nb w3 HNB.out).mono ?_; rintro e w4 ⟨rfl, hb_⟩; refine ⟨_, rfl, ?_⟩; have HA1_4 := Aside0.mk ((hb_.block _ (zw HA1_3.out)).trans HA1_3.out); have HA2_4 := Aside0.mk ((hb_.block _ (zw HA2_3.out)).trans HA2_3.out); have HB4 := Aside0.mk (zm HB3.out hb_); clear hb_ hc10 hc11) | ((with_reducible refine zn (f := 80) rfl ?_); refine zx (some 14) rfl rfl Tryd.func80 (by kernel_rfl) rfl #[.int .i64 nb] rfl (by (try simp only [List.map_toArray, List.map_cons, List.map_nil]); first | done | rfl) ?_; refine (impl_NewDisk.calls nb dur [] w4 HND.out).mono ?_; rintro e w5 ⟨v0, v1, rfl, hr_, hs_, hb_⟩; obtain ⟨A0, c0, e0_⟩ := Kd.R_slice hr_; subst e0_; obtain ⟨A1, c1, e1_⟩ := Kd.S_slice hs_; subst e1_; refine ⟨_, rfl, ?_⟩; have HR0 := Aside0.mk hr_; have HS0 := Aside0.mk hs_; have HA1_5 := Aside0.mk ((hb_.block _ (zw HA1_4.out)).trans HA1_4.out); have HA2_5 := Aside0.mk ((hb_.block _ (zw HA2_4.out)).trans HA2_4.out); have HB5 := Aside0.mk (zm HB4.out hb_); clear hr_ hs_ hb_) | ((with_reducible refine zn (f := 79) rfl ?_); refine zx (some 15) rfl rfl Tryd.func79 (by kernel_rfl) rfl #[.agg #[.slice A0 dur.length c0, .slice A1 ([] : List S195).length c1]] rfl (by (try simp only [List.map_toArray, List.map_cons, List.map_nil]); first | done | rfl) ?_; refine (spin_c w5 A0 c0 dur A1 c1 [] (Kd.R_reads' HR0.out).2.2 (Kd.R_reads' HR0.out).2.1 (Kd.S_reads' HS0.out).2.2 (Kd.S_reads' HS0.out).2.1 (fun i hi => absurd hi (Nat.not_lt_zero _)) HDL.out (by simp)).mono ?_; rintro e w6 ⟨gp, gy, gm, vD, vP, vK, rfl, hP, hb_⟩; refine ⟨_, rfl, ?_⟩; have HP := Aside0.mk hP; have HA1_6 := Aside0.mk ((hb_.block _ (zw HA1_5.out)).trans HA1_5.out); have HA2_6 := Aside0.mk ((hb_.block _ (zw HA2_5.out)).trans HA2_5.out); have HS56 := Aside0.mk hb_; have HB6 := Aside0.mk (zm HB5.out hb_); have HL5 := Aside0.mk (And.intro (zw HA1_5.out) (zw HA2_5.out)); clear hP hb_) | ((with_reducible refine zn (f := 46) rfl ?_); refine zx (some 16) rfl rfl Tryd.func46 (by kernel_rfl) rfl #[] rfl (by (try simp only [List.map_toArray, List.map_cons, List.map_nil]); first | done | rfl) ?_; refine (impl_NewTree.calls tr0 w6 rfl).mono ?_; rintro e w7 ⟨v0, rfl, hr_, hb_⟩; obtain ⟨A2, c2, e0_⟩ := Kd.R_slice hr_; subst e0_; refine ⟨_, rfl, ?_⟩; have HR2 := Aside0.mk hr_; have HA1_7 := Aside0.mk ((hb_.block _ (zw HA1_6.out)).trans HA1_6.out); have HA2_7 := Aside0.mk ((hb_.block _ (zw HA2_6.out)).trans HA2_6.out); have HM7 := Aside0.mk hb_; have HB7 := Aside0.mk (zm HB6.out hb_); clear hr_ hb_) | ((with_reducible refine zn (f := 40) rfl ?_); refine zx (some 17) rfl rfl Tryd.func40 (by kernel_rfl) rfl #[.agg #[.slice A2 tr0.length c2]] rfl (by (try simp only [List.map_toArray, List.map_cons, List.map_nil]); first | done | rfl) ?_; refine (impl_EncodeTree.calls k A2 c2 tr0 img w7 (Kd.R_reads' HR2.out).2.2 (Kd.R_reads' HR2.out).2.1 HE.out (Go.Proofs.YtjoafknckmoojaaDoorH.GFMAX.below HGM.out HB7.out)).mono ?_; rintro e w8 ⟨v0, rfl, hr_, hb_⟩; obtain ⟨AI, cI, e0_⟩ := Kd.R_slice hr_; subst e0_; refine ⟨_, rfl, ?_⟩; have HRI := Aside0.mk hr_; have HA1_8 := Aside0.mk ((hb_.block _ (zw HA1_7.out)).trans HA1_7.out); have HA2_8 := Aside0.mk ((hb_.block _ (zw HA2_7.out)).trans HA2_7.out); have HM8 := Aside0.mk (zm HM7.out hb_); have HZ7 := Aside0.mk HM7.out.size; have HB8 := Aside0.mk (zm HB7.out hb_); have hc10 : w8.cell? ⟨g1, 0, none⟩ = some (.int .i64 a0_0) := (ze HA1_8.out 0).trans rfl; have hc11 : w8.cell? ⟨g1, 1, none⟩ = some (.int .i64 a0_1) := (ze HA1_8.out 1).trans rfl; clear hr_ hb_) | ((with_reducible refine zn (f := 82) rfl ?_); refine zx (some 20) rfl rfl Tryd.func82 (by kernel_rfl) rfl #[.agg #[.int .i64 a0_0, .int .i64 a0_1], .int .i64 0, .bool false] rfl (by (try simp only [List.map_toArray, List.map_cons, List.map_nil]); first | done | rfl) ?_; refine (impl_Config_area.calls a0_0 a0_1 0 false 2 a0_0 w8 HAR.out).mono ?_; rintro e w9 ⟨rfl, hb_⟩; refine ⟨_, rfl, ?_⟩; have HA2_9 := Aside0.mk ((hb_.block _ (zw HA2_8.out)).trans HA2_8.out); have HRI9 := Aside0.mk (Kd.R_below HRI.out hb_); have HM9 := Aside0.mk (zm HM8.out hb_); have HB9 := Aside0.mk (zm HB8.out hb_); clear hb_ hc10 hc11) | ((with_reducible refine zr (N := 7) rfl ?_); refine Go.Proofs.YtjoafknckmoojaaDoorH.alloc_arr rfl (t := 123) rfl (N := 7) rfl (zs := (Array.replicate 64 (.int .u8 0))) (n := 64) (by kernel_rfl) ?_; intro g7 hg7 w10 hA7 hb_ _; have HA7 := Aside0.mk hA7; have HA2_10 := Aside0.mk ((hb_.block _ (zw HA2_9.out)).trans HA2_9.out); have HRI10 := Aside0.mk (Kd.R_below HRI9.out hb_); have HM10 := Aside0.mk (zm HM9.out hb_); have HGE7 := Aside0.mk (show w6.heap.size ≤ g7 ∧ w9.heap.size = g7 by (rw [hg7]; exact ⟨HM9.out.size, rfl⟩)); have HB10 := Aside0.mk (zm HB9.out hb_); clear hA7 hb_ hg7) | ((with_reducible refine zr (N := 23) rfl ?_); refine Go.Proofs.YtjoafknckmoojaaDoorH.slice_arr rfl (t := 123) (e := 5) (n := 64) rfl (N := 23) rfl (g := g7) rfl Tryd.underlying123 (by kernel_rfl) ?_) | ((with_reducible refine zr (N := 25) rfl ?_); obtain ⟨w11, hrun_, hR_, hg_⟩ := zcopy (ty := 3) (c := cI) (A := AI) HA7.out (Kd.R_reads' HRI10.out).2.2 HIL.out; refine Kd.event_run rfl (exec_copy (by rfl) (by rfl) (by rfl) hrun_) ?_; have HRB := Aside0.mk hR_; have HA2_11 := Aside0.mk (zz HA2_10.out hg_ (fun e_ => by injection e_ with e_; have h1_ := HGE7.out.1; have h2_ := zw HA2_5.out; have h3_ := HS56.out.size; omega)); have HRI11 := Aside0.mk (Kd.R_mono (Kd.R_grown (Kd.R_types HRI10.out HA7.out (by decide)) hg_ (fun k_ hk_ e_ => hk_.2 (by injection e_))) (fun _ _ => trivial : ∀ _, _ → True)); have HM11 := Aside0.mk (pw_below_grown HM10.out (some g7) HM10.out.size hg_ (fun k_ hk_ => by injection hk_ with hk_; exact hk_ ▸ HGE7.out.1)); have HB11 := Aside0.mk (pw_below_grown HB10.out (some g7) HB10.out.size hg_ (fun k_ hk_ => by injection hk_ with hk_; rw [← hk_]; exact Nat.le_trans HB6.out.size HGE7.out.1)); clear hR_ hg_ hrun_) | ((with_reducible refine zr (N := 28) rfl ?_); refine Go.Proofs.YtjoafknckmoojaaDoorH.load_arr (Value.int .u8) (h1 := fun _ => rfl) rfl (t := 123) (e := 5) (n := 64) (A := some ⟨g7, 0, none⟩) (xs := padB img) rfl (N := 28) rfl rfl Tryd.underlying123 (by kernel_rfl) (by omega) (padB_len HIL.out).symm (by have h_ := (Kd.R_reads' HRB.out).2.2; exact h_) ?_) | ((with_reducible refine zn (f := 83) rfl ?_); refine zx (some 29) rfl rfl Tryd.func83 (by kernel_rfl) rfl #[.pointer (some ⟨gp, 0, none⟩), .int .i64 2, arrV (padB img)] rfl (by (try simp only [List.map_toArray, List.map_cons, List.map_nil]); first | done | rfl) ?_; refine (write_c w11 w5.heap.size _ gp dur [] [] gy gm vD vP vK 2 (padB img) (padB_len HIL.out) (HP.out.move (fun k_ _ h_ => HM11.out.block k_ h_) (Nat.le_refl _)) (Nat.le_trans HS56.out.size HM11.out.size) HM11.out.size (by simp) (by simp)).mono ?_; rintro e w12 ⟨rfl, vP1, vK1, hP_, hb_, hk_⟩; refine ⟨_, rfl, ?_⟩; have HP12 := Aside0.mk hP_; have HA2_12 := Aside0.mk ((hb_.block _ (zw HA2_5.out)).trans HA2_11.out); have HRI12 := Aside0.mk (Kd.R_kept HRI11.out hk_ (fun k_ h1_ h2_ => by have h3_ := HZ7.out; omega)); have HS12 := Aside0.mk (below_under HS56.out HM11.out hb_); have HB12 := Aside0.mk (zm HB5.out HS12.out); clear hP_ hb_ hk_) | ((with_reducible refine zn (f := 59) rfl ?_); refine zx (some 34) rfl rfl Tryd.func59 (by kernel_rfl) rfl #[.slice AI img.length cI] rfl (by (try simp only [List.map_toArray, List.map_cons, List.map_nil]); first | done | rfl) ?_; refine (impl_Crc.calls k AI cI img crc w12 (Kd.R_reads' HRI12.out).2.2 (Kd.R_reads' HRI12.out).2.1 HCR.out (Go.Proofs.YtjoafknckmoojaaDoorH.GFNIB.below HGN.out HB12.out)).mono ?_; rintro e w13 ⟨rfl, hd_⟩; have hb_ : Below w12.heap.size w12 w13 := drawn_below hd_; refine ⟨_, rfl, ?_⟩; have HA2_13 := Aside0.mk ((hb_.block _ (zw HA2_12.out)).trans HA2_12.out); have HM13 := Aside0.mk hb_; clear hb_ hd_) | ((with_reducible refine zn (f := 84) rfl ?_); refine zx (some 36) rfl rfl Tryd.func84 (by kernel_rfl) rfl #[.agg #[.int .i64 1, .int .i64 0, .int .i64 0, .int .i64 (img.length : Int), .int .i64 crc]] rfl (by (try simp only [List.map_toArray, List.map_cons, List.map_nil]); first | done | rfl) ?_; refine (impl_Super_block.calls k 1 0 0 (img.length : Int) crc blk w13 HBK.out).mono ?_; rintro e w14 ⟨rfl, hb_⟩; refine ⟨_, rfl, ?_⟩; have HA2_14 := Aside0.mk ((hb_.block _ (zw HA2_13.out)).trans HA2_13.out); have HM14 := Aside0.mk (zm HM13.out hb_); clear hb_) | ((with_reducible refine zn (f := 83) rfl ?_); refine zx (some 37) rfl rfl Tryd.func83 (by kernel_rfl) rfl #[.pointer (some ⟨gp, 0, none⟩), .int .i64 1, arrV blk] rfl (by (try simp only [List.map_toArray, List.map_cons, List.map_nil]); first | done | rfl) ?_; refine (write_c w14 w5.heap.size _ gp dur _ _ gy gm vD vP1 vK1 1 blk HBL.out (HP12.out.move (fun k_ _ h_ => HM14.out.block k_ h_) (Nat.le_refl _)) (Nat.le_trans HS12.out.size HM14.out.size) HM14.out.size (by simp [YtjoafknckmoojaaDoorH.aset]) (by simp)).mono ?_; rintro e w15 ⟨rfl, vP2, vK2, hP_, hb_, hk_⟩; refine ⟨_, rfl, ?_⟩; have HP15 := Aside0.mk hP_; have HA2_15 := Aside0.mk ((hb_.block _ (zw HA2_5.out)).trans HA2_14.out); have HS15 := Aside0.mk (below_under HS12.out HM14.out hb_); clear hP_ hb_ hk_) | ((with_reducible refine zn (f := 85) rfl ?_); refine zx (some 39) rfl rfl Tryd.func85 (by kernel_rfl) rfl #[.pointer (some ⟨gp, 0, none⟩)] rfl (by (try simp only [List.map_toArray, List.map_cons, List.map_nil]); first | done | rfl) ?_; refine (sync_c w5 w15 _ gp dur _ _ gy gm vD vP2 vK2 HP15.out (Nat.le_refl _) HS15.out (fmt_bd HD.out) (by simp [YtjoafknckmoojaaDoorH.aset, fmtM]) (by have h_ := HD.out; omega) HDL.out).mono ?_; rintro e w16 ⟨rfl, gy', gm', hP_, hb_, hk_⟩; refine ⟨_, rfl, ?_⟩; have HP16 := Aside0.mk hP_; have HA2_16 := Aside0.mk ((hb_.block _ (zw HA2_5.out)).trans HA2_5.out); have HB16 := Aside0.mk (zm HB5.out hb_); clear hP_ hb_ hk_) | ((with_reducible refine zn (f := 86) rfl ?_); refine zx (some 41) rfl rfl Tryd.func86 (by kernel_rfl) rfl #[.pointer (some ⟨gp, 0, none⟩)] rfl (by (try simp only [List.map_toArray, List.map_cons, List.map_nil]); first | done | rfl) ?_; refine (disk_c w16 w5.heap.size _ gp (syncD dur (yl (fmtM img blk))) [] [] gy' gm' vD (.slice none 0 0) (.slice none 0 0) HP16.out (Nat.le_refl _) (by rw [syncD_len _ (yl_ok (fmt_64 HIL.out HBL.out) (fmt_bd HD.out))]; exact HDL.out) (by simp) (fun i hi => absurd hi (Nat.not_lt_zero _))).mono ?_; rintro e w17 ⟨v0, v1, rfl, hr_, hs_, hb_⟩; obtain ⟨Av0, cv0, ev0⟩ := Kd.R_slice hr_; subst ev0; obtain ⟨Av1, cv1, ev1⟩ := Kd.S_slice hs_; subst ev1; refine ⟨_, rfl, ?_⟩; have HR17 := Aside0.mk (Kd.R_lower hr_ HB16.out.size); have HS17 := Aside0.mk (Kd.S_lower hs_ HB16.out.size); have HA2_17 := Aside0.mk ((hb_.block _ (zw HA2_16.out)).trans HA2_16.out); have HB17 := Aside0.mk (zm HB16.out hb_); clear hr_ hs_ hb_) | (refine Go.Proofs.YtjoafknckmoojaaDoorH.store_arr (g := g2) (cells := #[.slice Av0 (syncD dur (yl (fmtM img blk))).length cv0, .slice Av1 ([] : List S195).length cv1]) rfl (t := 47) rfl rfl rfl rfl HA2_17.out (by kernel_rfl) rfl (by kernel_rfl) ?_; intro w9 hA9 hg9; have HA9 := Aside0.mk hA9; have HG9 := Aside0.mk hg9; have HB9 := Aside0.mk (pw_below_grown HB17.out (some g2) HB17.out.size hg9 (fun k_ hk_ => by injection hk_ with hk_; exact hk_ ▸ HGE2.out)); clear hA9 hg9))
   refine bodyPost_ret (results_cell_row rfl _ _ g2 47 _ (0, 0) _ rfl HA9.out Tryd.underlying47 rfl (by kernel_rfl)) rfl ?_
   exact ⟨_, _, rfl, Kd.R_mono (Kd.R_grown (Kd.R_types HR17.out HA2_17.out (by decide)) HG9.out (fun k_ hk_ e_ => hk_.2 (by injection e_))) (fun _ _ => trivial), Kd.S_mono (Kd.S_grown (Kd.S_types HS17.out HA2_17.out (by decide)) HG9.out (fun k_ hk_ e_ => hk_.2 (by injection e_))) (fun _ hk_ => hk_.1), HB9.out⟩
  ·cases h
 ·rename_i hv
  have HV := Aside0.mk (cfg_no hv)
  clear hv
  simp only [Option.some.injEq, Prod.mk.injEq] at h
  obtain ⟨rfl, rfl⟩ := h
  go_enter Tryd.func26, Tryd.ntmps26
  go_wp2_with (first | ((with_reducible refine zr (N := 1) rfl ?_); refine Go.Proofs.YtjoafknckmoojaaDoorH.box_arr (cs := #[.int .i64 a0_0, .int .i64 a0_1]) rfl (t := 49) rfl (N := 1) rfl rfl ?_; intro g1 hg1 w1 hA1 hb_; have HA1 := Aside0.mk hA1; have HB1 := Aside0.mk hb_; clear hA1 hb_ hg1) | ((with_reducible refine zr (N := 2) rfl ?_); refine Go.Proofs.YtjoafknckmoojaaDoorH.alloc_arr rfl (t := 47) rfl (N := 2) rfl (zs := #[.slice none 0 0, .slice none 0 0]) (n := 2) (by kernel_rfl) ?_; intro g2 hg2 w2 hA2 hb_ _; have HA2 := Aside0.mk hA2; have HA1_2 := Aside0.mk ((hb_.block _ (zw HA1.out)).trans HA1.out); have HB2 := Aside0.mk (zm HB1.out hb_); have HGE2 := Aside0.mk (show w.heap.size ≤ g2 by (rw [hg2]; exact HB1.out.size)); have hc10 : w2.cell? ⟨g1, 0, none⟩ = some (.int .i64 a0_0) := (ze HA1_2.out 0).trans rfl; have hc11 : w2.cell? ⟨g1, 1, none⟩ = some (.int .i64 a0_1) := (ze HA1_2.out 1).trans rfl; clear hA2 hb_ hg2) | ((with_reducible refine zn (f := 78) rfl ?_); refine zx (some 9) rfl rfl Tryd.func78 (by kernel_rfl) rfl #[.agg #[.int .i64 a0_0, .int .i64 a0_1]] rfl (by (try simp only [List.map_toArray, List.map_cons, List.map_nil]); first | done | rfl) ?_; refine (impl_Config_valid.calls a0_0 a0_1 _ w2 HV.out).mono ?_; rintro e w3 ⟨rfl, hb_⟩; refine ⟨_, rfl, ?_⟩; have HA1_3 := Aside0.mk ((hb_.block _ (zw HA1_2.out)).trans HA1_2.out); have HA2_3 := Aside0.mk ((hb_.block _ (zw HA2.out)).trans HA2.out); have HB3 := Aside0.mk (zm HB2.out hb_); clear hb_ hc10 hc11; have hc10 : w3.cell? ⟨g1, 0, none⟩ = some (.int .i64 a0_0) := (ze HA1_3.out 0).trans rfl; have hc11 : w3.cell? ⟨g1, 1, none⟩ = some (.int .i64 a0_1) := (ze HA1_3.out 1).trans rfl) | (refine Go.Proofs.YtjoafknckmoojaaDoorH.store_arr (g := g2) (cells := #[.slice none 0 0, .slice none 0 0]) rfl (t := 47) rfl rfl rfl rfl HA2_3.out (by kernel_rfl) rfl (by kernel_rfl) ?_; intro w9 hA9 hg9; have HA9 := Aside0.mk hA9; have HB9 := Aside0.mk (pw_below_grown HB3.out (some g2) HB3.out.size hg9 (fun k_ hk_ => by injection hk_ with hk_; exact hk_ ▸ HGE2.out)); clear hA9 hg9))
  refine bodyPost_ret (results_cell_row rfl _ _ g2 47 _ (0, 0) _ rfl HA9.out Tryd.underlying47 rfl (by kernel_rfl)) rfl ?_
  exact ⟨_, _, rfl, Kd.R_nil _ _ _ _ _, Kd.S_nil _ _ _ _ _, HB9.out⟩

end Go.Proofs.YtjoafknckmoojaaDoor.GFnExactFormatDisk
