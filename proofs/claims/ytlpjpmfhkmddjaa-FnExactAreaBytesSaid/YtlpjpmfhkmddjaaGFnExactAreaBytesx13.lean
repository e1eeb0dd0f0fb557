/- Written by give.py, a program of this session, that runs the kit's print and lays contracts proved by hand beside it. -/
import Derived.Test.YtlpjpmfhkmddjaaGFnExactAreaBytesx0
import Derived.Test.YtlpjpmfhkmddjaaGFnExactAreaBytesx11
import Derived.Test.YtlpjpmfhkmddjaaGFnExactAreaBytesx12
namespace Go.Proofs.Ytlpjpmfhkmddjaa.GFnExactAreaBytes
open Go.RowKit Go.Proofs.YtlpjpmfhkmddjaaW.PrintWords Go.Proofs.YtlpjpmfhkmddjaaW.PrintLast Go.Proofs.YtlpjpmfhkmddjaaW.PrintMore
attribute [local go_sem] max2_int min2_int max_two min_two max_three min_three max_four min_four Go.Proofs.YtlpjpmfhkmddjaaH.str_leq Go.Proofs.YtlpjpmfhkmddjaaH.str_geq Go.Proofs.YtlpjpmfhkmddjaaH.str_gtr   -- for this text's walks alone
set_option linter.unusedVariables false
set_option linter.unusedSimpArgs false

/-! ### a disk at work, in memory: blocks, rows, the table of young blocks -/
def arrV (l : List Int) : Value := .agg (l.map (Value.int .u8)).toArray
def z64 : List Int := List.replicate 64 0
theorem arrV_z64 : arrV z64 = .agg (Array.replicate 64 (.int .u8 0)) := by unfold arrV z64; rw [List.map_replicate, List.toArray_replicate]
theorem arr_size {l : List Int} (h : l.length = 64) : (l.map (Value.int .u8)).toArray.size = 64 := by simp [h]
theorem arr_one (l : List Int) : (l.map (Value.int .u8)).toArray.all (·.oneCell') = true := by
  apply all_oneCell_toArray; intro v_ hv_; obtain ⟨x_, _, rfl⟩ := List.mem_map.mp hv_; rfl
structure Plat (W : World) (B s gp : Nat) (dur : List Int) (pend : List S82) (m : List (Int × List Int)) (gy gm : Nat) (vD vP vK : Value) : Prop where
  bp : W.heap[gp]? = some (.cells #[vD, vP, .pointer (some ⟨gy, 0, none⟩)] 116 (0, 0))
  bo : W.heap[gy]? = some (.cells #[vK, .map (some gm)] 126 (0, 0))
  bm : YtlpjpmfhkmddjaaH.MapIs (Value.int .i64) arrV W gm m
  rd : (Kd.int .u8).R 5 W B (fun k => k < s) vD dur
  rp : k82.R 82 W B (fun k => k < s ∧ some k ≠ vD.ownBlock) vP pend
  rk : (Kd.int .i64).R 2 W B (fun k => k < s) vK (m.map Prod.fst)
  pp : B ≤ gp ∧ gp < s
  po : B ≤ gy ∧ gy < s
  pm : B ≤ gm ∧ gm < s
  m64 : ∀ p ∈ m, p.2.length = 64
theorem Plat.move {W w' : World} {B s s' gp : Nat} {dur : List Int} {pend : List S82} {m : List (Int × List Int)} {gy gm : Nat} {vD vP vK : Value} (h : Plat W B s gp dur pend m gy gm vD vP vK) (hm : ∀ k, B ≤ k → k < s → w'.heap[k]? = W.heap[k]?) (hs : s ≤ s') : Plat w' B s' gp dur pend m gy gm vD vP vK where
  bp := (hm _ h.pp.1 h.pp.2).trans h.bp
  bo := (hm _ h.po.1 h.po.2).trans h.bo
  bm := h.bm.move (hm _ h.pm.1 h.pm.2)
  rd := Kd.R_mono (Kd.R_move (Kd.R_bound h.rd) (fun k hk => hm k hk.2.1 hk.1)) (fun k hk => Nat.lt_of_lt_of_le hk.1 hs)
  rp := Kd.R_mono (Kd.R_move (Kd.R_bound h.rp) (fun k hk => hm k hk.2.1 hk.1.1)) (fun k hk => ⟨Nat.lt_of_lt_of_le hk.1.1 hs, hk.1.2⟩)
  rk := Kd.R_mono (Kd.R_move (Kd.R_bound h.rk) (fun k hk => hm k hk.2.1 hk.1)) (fun k hk => Nat.lt_of_lt_of_le hk.1 hs)
  pp := ⟨h.pp.1, Nat.lt_of_lt_of_le h.pp.2 hs⟩
  po := ⟨h.po.1, Nat.lt_of_lt_of_le h.po.2 hs⟩
  pm := ⟨h.pm.1, Nat.lt_of_lt_of_le h.pm.2 hs⟩
  m64 := h.m64
theorem Plat.below {W w' : World} {B s gp : Nat} {dur : List Int} {pend : List S82} {m : List (Int × List Int)} {gy gm : Nat} {vD vP vK : Value} (h : Plat W B s gp dur pend m gy gm vD vP vK) (hs : s ≤ W.heap.size) (hb : Below W.heap.size W w') : Plat w' B s gp dur pend m gy gm vD vP vK :=
  h.move (fun k _ h2 => hb.block k (by omega)) (Nat.le_refl _)
theorem run_look64 {W : World} {gm : Nat} {m : List (Int × List Int)} (h : YtlpjpmfhkmddjaaH.MapIs (Value.int .i64) arrV W gm m) (b : Int) :
    (Instr.lookup 124 (.map (some gm)) (.int .i64 b) true).run Try.prog W = .ok (.tuple #[arrV ((YtlpjpmfhkmddjaaH.aget m b).getD z64), .bool (YtlpjpmfhkmddjaaH.aget m b).isSome]) W := by
  have hz : ∀ w, (zeroValue 68).run Try.prog w = .ok (arrV z64) w := fun w => by
    rw [arrV_z64]; exact (zero_of_info (P := Try.prog) (n := 64) (show (Try.prog.info? 68).map (fun i => (i.zero, i.size)) = some (some (.agg (Array.replicate 64 (.int .u8 0))), 64) by kernel_rfl)).1 w
  have := YtlpjpmfhkmddjaaH.run_lookup (YtlpjpmfhkmddjaaH.int_key Try.underlying2) Try.underlying124 b (arrV z64) hz h
  rw [this]
  cases YtlpjpmfhkmddjaaH.aget m b <;> rfl
theorem aget_64 {m : List (Int × List Int)} (h : ∀ p ∈ m, p.2.length = 64) (b : Int) : ((YtlpjpmfhkmddjaaH.aget m b).getD z64).length = 64 := by
  induction m with
  | nil => rfl
  | cons p m ih =>
    simp only [YtlpjpmfhkmddjaaH.aget]
    by_cases c : p.1 = b
    · rw [if_pos c]; exact h p (by simp)
    · rw [if_neg c]; exact ih (fun q hq => h q (by simp [hq]))
theorem aset_64 {m : List (Int × List Int)} (h : ∀ p ∈ m, p.2.length = 64) (b : Int) {d : List Int} (hd : d.length = 64) : ∀ p ∈ YtlpjpmfhkmddjaaH.aset m b d, p.2.length = 64 := by
  induction m with
  | nil => intro p hp; simp only [YtlpjpmfhkmddjaaH.aset, List.mem_singleton] at hp; subst hp; exact hd
  | cons q m ih =>
    intro p hp
    obtain ⟨k', v'⟩ := q
    simp only [YtlpjpmfhkmddjaaH.aset] at hp
    by_cases c : k' = b
    · rw [if_pos c] at hp
      rcases List.mem_cons.mp hp with rfl | hp
      · exact hd
      · exact h p (by simp [hp])
    · rw [if_neg c] at hp
      rcases List.mem_cons.mp hp with rfl | hp
      · exact h _ (by simp)
      · exact ih (fun q hq => h q (by simp [hq])) p hp
theorem run_ldarr {o : Oper} {a : Act} {x : Operand} {w : World} {g T : Nat} {l : List Int} (ho : o.op = .load 68 x) (hx : a.eval x = .pointer (some ⟨g, 0, none⟩)) (h : w.heap[g]? = some (.cells (l.map (Value.int .u8)).toArray T (0, 0))) (hl : l.length = 64) :
    (execOp a.eval o).run Try.prog w = .ok (.value (arrV l)) w := by
  have hh := run_loadVar_row w g T 68 (l.map (Value.int .u8)).toArray (0, 0) _ h Try.underlying68 rfl (by rw [arr_size hl]; kernel_rfl)
  unfold execOp
  simp [ho, hx, Instr.loadAt, Instr.sureAddr, hh, arrV]
theorem run_exec_upd {P : Program} {o : Oper} {a : Act} {t : TypeId} {x k v : Operand} {X K V : Value} {w w1 : World} (ho : o.op = .mapUpdate t x k v) (hx : a.eval x = X) (hk : a.eval k = K) (hv : a.eval v = V) (h : (Instr.mapUpdate t X K V).run P w = .ok () w1) : (execOp a.eval o).run P w = .ok .skip w1 := by
  unfold execOp
  simp [ho, hx, hk, hv, h]
theorem ne_map {w : World} {g gm T : Nat} {cs : Array Value} {f : Nat × Nat} {m : List (Int × List Int)} (h : w.heap[g]? = some (.cells cs T f)) (hm : YtlpjpmfhkmddjaaH.MapIs (Value.int .i64) arrV w gm m) : some g ≠ some gm := by
  intro e; injection e with e; subst e
  obtain ⟨es, c, h1, _⟩ := hm
  rw [h] at h1; cases h1
theorem Kd.R_types' {α : Type} {d : Kd α} {e base gm : Nat} {w : World} {ok : Nat → Prop} {v : Value} {xs : List α} {m : List (Int × List Int)} (h : d.R e w base ok v xs) (hm : YtlpjpmfhkmddjaaH.MapIs (Value.int .i64) arrV w gm m) : d.R e w base (fun k => ok k ∧ k ≠ gm) v xs :=
  Kd.R_mono (Kd.R_bound h) (fun k hk => ⟨hk.1, fun e_ => by obtain ⟨_, _, q, _, cells, hc⟩ := hk.2; subst e_; exact ne_map hc hm rfl⟩)
theorem below_base {W w' : World} {B : Nat} (h : Below W.heap.size W w') (hB : B ≤ W.heap.size) : Below B W w' := below_then (Below.refl B W) hB h
theorem infoI64_ : (Try.prog.info? 2).map (fun i => (i.zero, i.size, i.bytes)) = some (some (.int .i64 0), 1, 8) := by kernel_rfl
set_option maxHeartbeats 4000000 in
set_option maxRecDepth 100000 in
theorem newOrd_c (W : World) : Calls Try.prog 84 #[] W fun e w' => ∃ gy gm, e = .returned (.pointer (some ⟨gy, 0, none⟩)) ∧ W.heap.size ≤ gy ∧ W.heap.size ≤ gm ∧
    w'.heap[gy]? = some (.cells #[.slice none 0 0, .map (some gm)] 126 (0, 0)) ∧ YtlpjpmfhkmddjaaH.MapIs (Value.int .i64) arrV w' gm ([] : List (Int × List Int)) ∧ Below W.heap.size W w' := by
  have hmm := @run_makeMap Try.prog
  go_enter Try.func84, Try.ntmps84
  go_wp2
  go_ret
  have h0 := YtlpjpmfhkmddjaaH.MapIs.made (ke := Value.int .i64) (ve := arrV) (κ := Int) W
  refine ⟨W.heap.size + 1, W.heap.size, rfl, by omega, Nat.le_refl _, ?_, ?_, below_alloc (below_alloc (Below.refl _ _) _) _⟩
  · have := blk_new (W.alloc (.map #[] 0)) (.cells #[.slice none 0 0, .map (some W.heap.size)] 126)
    rw [World.size_alloc] at this
    exact this
  · exact h0.move ((below_alloc (Below.refl (W.alloc (.map #[] 0)).heap.size (W.alloc (.map #[] 0))) _).block _ (by simp))
set_option maxHeartbeats 4000000 in
set_option maxRecDepth 100000 in
theorem get_c (W : World) (gy gm : Nat) (vK : Value) (m : List (Int × List Int)) (b : Int) (bo : W.heap[gy]? = some (.cells #[vK, .map (some gm)] 126 (0, 0))) (bm : YtlpjpmfhkmddjaaH.MapIs (Value.int .i64) arrV W gm m) (m64 : ∀ p ∈ m, p.2.length = 64) :
    Calls Try.prog 85 #[.pointer (some ⟨gy, 0, none⟩), .int .i64 b] W fun e w' => e = .returned (.tuple #[arrV ((YtlpjpmfhkmddjaaH.aget m b).getD z64), .bool (YtlpjpmfhkmddjaaH.aget m b).isSome]) ∧ Below W.heap.size W w' := by
  have hv := aget_64 m64 b
  obtain ⟨v, hve⟩ : ∃ v, v = (YtlpjpmfhkmddjaaH.aget m b).getD z64 := ⟨_, rfl⟩
  obtain ⟨q, hqe⟩ : ∃ q, q = (YtlpjpmfhkmddjaaH.aget m b).isSome := ⟨_, rfl⟩
  have HV : Aside0 (v.length = 64) := ⟨by rw [hve]; exact hv⟩
  have HVE := Aside0.mk hve
  have HQE := Aside0.mk hqe
  have BO := Aside0.mk bo
  have BM := Aside0.mk bm
  clear hv hve hqe bo bm
  go_enter Try.func85, Try.ntmps85
  go_wp2_with (first | ((with_reducible refine gate_dst (N := 4) rfl ?_); refine Go.Proofs.YtlpjpmfhkmddjaaH.alloc_arr rfl (t := 68) rfl (N := 4) rfl (zs := (Array.replicate 64 (.int .u8 0))) (n := 64) (by kernel_rfl) ?_; intro g4 hg4 w1 hA4 hb1 _; have BO1 := Aside0.mk ((hb1.block _ (blk_lt BO.out)).trans BO.out); have BM1 := Aside0.mk (BM.out.move (hb1.block _ BM.out.lt)); have hc1 : w1.cell? ⟨gy, 1, none⟩ = some (.map (some gm)) := (blk_cell BO1.out 1).trans rfl; have hlk := run_look64 BM1.out b; rw [← HVE.out, ← HQE.out] at hlk; have HA4 := Aside0.mk hA4; have HG4 := Aside0.mk hg4; have HB1 := Aside0.mk hb1; clear hA4 hg4 hb1) | ((with_reducible refine gate_dst (N := 6) rfl ?_); refine Go.Proofs.YtlpjpmfhkmddjaaH.alloc_arr rfl (t := 68) rfl (N := 6) rfl (zs := (Array.replicate 64 (.int .u8 0))) (n := 64) (by kernel_rfl) ?_; intro g6 hg6 w2 hA6 hb2 _; have HA4' := Aside0.mk ((hb2.block _ (blk_lt HA4.out)).trans HA4.out); have HG6 := Aside0.mk hg6; have HB2 := Aside0.mk hb2; have HA6 := Aside0.mk hA6; clear hA6 hg6 hb2 hlk hc1) | (refine Go.Proofs.YtlpjpmfhkmddjaaH.store_arr (g := g6) (cells := (v.map (Value.int .u8)).toArray) rfl (t := 68) rfl rfl rfl rfl HA6.out (by rw [arr_size HV.out]; kernel_rfl) (by rw [arr_size HV.out]; rfl) (arr_one v) ?_; intro w3 hA3 hg3; have HA3 := Aside0.mk hA3; have HG3 := Aside0.mk hg3; clear hA3 hg3) | ((with_reducible refine gate_dst (N := 17) rfl ?_); refine Go.Proofs.YtlpjpmfhkmddjaaH.load_arr (Value.int .u8) (h1 := fun _ => rfl) rfl (t := 68) (e := 5) (n := 64) (A := some ⟨g6, 0, none⟩) (xs := v) rfl (N := 17) rfl rfl Try.underlying68 (by kernel_rfl) (by omega) HV.out.symm (Kd.R_reads' (Go.Proofs.YtlpjpmfhkmddjaaH.R_of_arr (Value.int .u8) (fun _ => rfl) (base := 0) (ok := fun _ => True) HA3.out (Nat.zero_le _) trivial (by rw [HV.out]; decide) (by rw [HV.out]; decide))).2.2 ?_; have HNE : Aside0 (some g4 ≠ some g6) := ⟨by intro e_; injection e_ with e_; have h1_ := blk_lt HA4.out; rw [HG6.out] at e_; omega⟩; have HA4'' := Aside0.mk (blk_grown HA4'.out HG3.out HNE.out)) | (refine Go.Proofs.YtlpjpmfhkmddjaaH.store_arr (g := g4) (cells := (v.map (Value.int .u8)).toArray) rfl (t := 68) rfl rfl rfl rfl HA4''.out (by rw [arr_size HV.out]; kernel_rfl) (by rw [arr_size HV.out]; rfl) (arr_one v) ?_; intro w4 hA5 hg5; have HA5 := Aside0.mk hA5; have HG5 := Aside0.mk hg5; clear hA5 hg5))
  refine bodyPost_ret (results_list (rs := [.cell 4 68, .tmp 5]) rfl (by simp) (.cell g4 68 _ (0, 0) _ rfl HA5.out Try.underlying68 rfl (by rw [arr_size HV.out]; kernel_rfl) (.tmp .nil))) rfl ?_
  have hb2 : Below W.heap.size W w2 := below_step HB1.out HB2.out
  have hb3 : Below W.heap.size W w3 := pw_below_grown hb2 (some g6) hb2.size HG3.out (fun k_ hk_ => by injection hk_ with hk_; rw [← hk_, HG6.out]; exact HB1.out.size)
  have hb4 : Below W.heap.size W w4 := pw_below_grown hb3 (some g4) hb3.size HG5.out (fun k_ hk_ => by injection hk_ with hk_; rw [← hk_, HG4.out]; exact Nat.le_refl _)
  exact ⟨by rw [← HVE.out, ← HQE.out]; rfl, hb4⟩
theorem aset_keys {m : List (Int × List Int)} {b : Int} {d v : List Int} (h : YtlpjpmfhkmddjaaH.aget m b = some v) : (YtlpjpmfhkmddjaaH.aset m b d).map Prod.fst = m.map Prod.fst := by
  induction m with
  | nil => cases h
  | cons p m ih =>
    obtain ⟨k', v'⟩ := p
    simp only [YtlpjpmfhkmddjaaH.aget] at h
    simp only [YtlpjpmfhkmddjaaH.aset]
    by_cases c : k' = b
    · rw [if_pos c]; simp [c]
    · rw [if_neg c] at h ⊢; simp [ih h]
theorem MapIs_drew {w : World} {gm : Nat} {m : List (Int × List Int)} (h : YtlpjpmfhkmddjaaH.MapIs (Value.int .i64) arrV w gm m) : YtlpjpmfhkmddjaaH.MapIs (Value.int .i64) arrV w.drew gm m := h
set_option maxHeartbeats 4000000 in
set_option maxRecDepth 100000 in
theorem set_c (W : World) (B s gy gm : Nat) (vK : Value) (m : List (Int × List Int)) (b : Int) (data : List Int) (hd : data.length = 64) (bo : W.heap[gy]? = some (.cells #[vK, .map (some gm)] 126 (0, 0))) (bm : YtlpjpmfhkmddjaaH.MapIs (Value.int .i64) arrV W gm m) (m64 : ∀ p ∈ m, p.2.length = 64)
    (rk : (Kd.int .i64).R 2 W B (fun k => k < s) vK (m.map Prod.fst)) (po : B ≤ gy) (pm : B ≤ gm) (hB : B ≤ W.heap.size) (hs : s ≤ W.heap.size) (hl : m.length ≤ 1000000) :
    Calls Try.prog 88 #[.pointer (some ⟨gy, 0, none⟩), .int .i64 b, arrV data] W fun e w' => e = .returned (.tuple #[]) ∧ ∃ vK', w'.heap[gy]? = some (.cells #[vK', .map (some gm)] 126 (0, 0)) ∧
      YtlpjpmfhkmddjaaH.MapIs (Value.int .i64) arrV w' gm (YtlpjpmfhkmddjaaH.aset m b data) ∧ (Kd.int .i64).R 2 w' B (fun k => k < s ∨ W.heap.size ≤ k) vK' ((YtlpjpmfhkmddjaaH.aset m b data).map Prod.fst) ∧ Below B W w' ∧ Kept W w' (fun k => k = gy ∨ k = gm ∨ some k = vK.ownBlock) := by
  have hv := aget_64 m64 b
  obtain ⟨v, hve⟩ : ∃ v, v = (YtlpjpmfhkmddjaaH.aget m b).getD z64 := ⟨_, rfl⟩
  obtain ⟨q, hqe⟩ : ∃ q, q = (YtlpjpmfhkmddjaaH.aget m b).isSome := ⟨_, rfl⟩
  have HV : Aside0 (v.length = 64) := ⟨by rw [hve]; exact hv⟩
  have HVE := Aside0.mk hve
  have HQE := Aside0.mk hqe
  have HD := Aside0.mk hd
  have BO := Aside0.mk bo
  have BM := Aside0.mk bm
  have RK := Aside0.mk rk
  have HBs := Aside0.mk hB
  have HSs := Aside0.mk hs
  have HL := Aside0.mk hl
  have HPO := Aside0.mk po
  have HPM := Aside0.mk pm
  clear hv hve hqe bo bm rk hd hB hs hl po pm m64
  cases q with
  | true =>
    go_enter Try.func88, Try.ntmps88
    go_wp2_with (first | ((with_reducible refine gate_dst (N := 5) rfl ?_); refine Go.Proofs.YtlpjpmfhkmddjaaH.box_arr (cs := (data.map (Value.int .u8)).toArray) rfl (t := 68) rfl (N := 5) rfl rfl ?_; intro g5 hg5 w1 hA5 hb1; have BO1 := Aside0.mk ((hb1.block _ (blk_lt BO.out)).trans BO.out); have BM1 := Aside0.mk (BM.out.move (hb1.block _ BM.out.lt)); have hc1 : w1.cell? ⟨gy, 1, none⟩ = some (.map (some gm)) := (blk_cell BO1.out 1).trans rfl; have hlk := run_look64 BM1.out b; rw [← HVE.out, ← HQE.out] at hlk; have HA5 := Aside0.mk hA5; have HG5 := Aside0.mk hg5; have HB1 := Aside0.mk hb1; clear hA5 hg5 hb1) | ((with_reducible refine gate_dst (N := 6) rfl ?_); refine Go.Proofs.YtlpjpmfhkmddjaaH.alloc_arr rfl (t := 68) rfl (N := 6) rfl (zs := (Array.replicate 64 (.int .u8 0))) (n := 64) (by kernel_rfl) ?_; intro g6 hg6 w2 hA6 hb2 _; have HG6 := Aside0.mk hg6; have HB2 := Aside0.mk hb2; have HA6 := Aside0.mk hA6; clear hA6 hg6 hb2 hlk hc1) | (refine Go.Proofs.YtlpjpmfhkmddjaaH.store_arr (g := g6) (cells := (v.map (Value.int .u8)).toArray) rfl (t := 68) rfl rfl rfl rfl HA6.out (by rw [arr_size HV.out]; kernel_rfl) (by rw [arr_size HV.out]; rfl) (arr_one v) ?_; intro w3 hA3 hg3; have hb2_ : Below W.heap.size W w2 := below_step HB1.out HB2.out; have hb3_ : Below W.heap.size W w3 := pw_below_grown hb2_ (some g6) hb2_.size hg3 (fun k_ hk_ => by injection hk_ with hk_; rw [← hk_, HG6.out]; exact HB1.out.size); have HA53 := Aside0.mk (blk_grown ((HB2.out.block _ (blk_lt HA5.out)).trans HA5.out) hg3 (by intro e_; injection e_ with e_; have h1_ := blk_lt HA5.out; rw [HG6.out] at e_; omega)); have HB3 := Aside0.mk hb3_; have hcK : w3.cell? ⟨gy, 0, none⟩ = some vK := (blk_cell ((HB3.out.block _ (blk_lt BO.out)).trans BO.out) 0).trans rfl; have hfK := blk_frozen ((HB3.out.block _ (blk_lt BO.out)).trans BO.out) 0; clear hA3 hg3 hb2_ hb3_))
    clear hcK hfK
    obtain ⟨v0, hg0⟩ : ∃ v0, YtlpjpmfhkmddjaaH.aget m b = some v0 := by
      have := HQE.out
      cases hh : YtlpjpmfhkmddjaaH.aget m b with
      | none => rw [hh] at this; cases this
      | some v0 => exact ⟨v0, rfl⟩
    have BO3 := Aside0.mk ((HB3.out.block _ (blk_lt BO.out)).trans BO.out)
    have BM3 := Aside0.mk (BM.out.move (HB3.out.block _ BM.out.lt))
    have RK3 : Aside0 ((Kd.int .i64).R 2 w3 B (fun k => k < s ∨ W.heap.size ≤ k) vK ((YtlpjpmfhkmddjaaH.aset m b data).map Prod.fst)) := ⟨by rw [aset_keys hg0]; exact Kd.R_mono (Kd.R_below RK.out HB3.out) (fun _ hk => .inl hk)⟩
    have KB3 := Aside0.mk (below_base HB3.out HBs.out)
    have FB3 : Aside0 (Kept W w3 (fun k => k = gy ∨ k = gm ∨ some k = vK.ownBlock)) := ⟨Kept.of_below HB3.out _⟩
    refine start_ (n := 7) (S := fun w' => w'.cell? ⟨gy, 1, none⟩ = some (.map (some gm)) ∧ w'.heap[g5]? = some (.cells (data.map (Value.int .u8)).toArray 68 (0, 0))) (ds := []) #[false, false, false, false, false, false, false] (by kernel_rfl) rfl rfl ⟨(blk_cell (blk_drew BO3.out) 1).trans rfl, blk_drew HA53.out⟩ (fun hHeld => ?_)
    have BO4 := Aside0.mk (blk_drew BO3.out); have BM4 := Aside0.mk (MapIs_drew BM3.out); have RK4 := Aside0.mk (Kd.R_drew RK3.out); have KB4 := Aside0.mk (KB3.out.drew); have FB4 := Aside0.mk (Kept.drew FB3.out); generalize w3.drew = w4 at BO4 BM4 RK4 KB4 FB4 hHeld ⊢
    refine pure_ (i := 0) (N := some 29) (v := ?_) (a' := ?_) #[true, false, false, false, false, false, false] rfl rfl (by kernel_rfl) (fun _ _ _ h => h) (Or.inl ⟨by rfl, ?_⟩) ?_ ?_
    rotate_left
    · intro w'
      go_simp
      with_reducible rfl
    rotate_left
    · simp only [Act.put, List.setIfInBounds_toArray, List.set_cons_zero, List.set_cons_succ, i64_w, i32_w]
      rfl
    refine pure_ (i := 1) (N := some 30) (v := ?_) (a' := ?_) #[true, true, false, false, false, false, false] rfl rfl (by kernel_rfl) (fun _ _ _ h => h) (Or.inl ⟨by rfl, ?_⟩) ?_ ?_
    rotate_left
    · intro w'
      go_simp
      with_reducible rfl
    rotate_left
    · simp only [Act.put, List.setIfInBounds_toArray, List.set_cons_zero, List.set_cons_succ, i64_w, i32_w]
      rfl
    refine pure_ (i := 2) (N := some 31) (v := ?_) (a' := ?_) #[true, true, true, false, false, false, false] rfl rfl (by kernel_rfl) (fun _ _ _ h => h) (Or.inl ⟨by rfl, ?_⟩) ?_ ?_
    rotate_left
    · intro w'
      go_simp
      with_reducible rfl
    rotate_left
    · simp only [Act.put, List.setIfInBounds_toArray, List.set_cons_zero, List.set_cons_succ, i64_w, i32_w]
      rfl
    refine pure_ (i := 4) (N := some 33) (v := ?_) (a' := ?_) #[true, true, true, false, true, false, false] rfl rfl (by kernel_rfl) (fun _ _ _ h => h) (Or.inl ⟨by rfl, ?_⟩) ?_ ?_
    rotate_left
    · intro w'
      go_simp
      with_reducible rfl
    rotate_left
    · simp only [Act.put, List.setIfInBounds_toArray, List.set_cons_zero, List.set_cons_succ, i64_w, i32_w]
      rfl
    refine take_ (i := 3) (N := some 32) (v := ?_) (a' := ?_) #[true, true, true, true, true, false, false] rfl rfl (by kernel_rfl) (fun _ _ _ h => h) (Or.inl ⟨by rfl, ?_⟩) hHeld ?_ ?_
    rotate_left
    · rintro w' ⟨s0, s1⟩
      go_simp
      with_reducible rfl
    rotate_left
    · simp only [Act.put, List.setIfInBounds_toArray, List.set_cons_zero, List.set_cons_succ, i64_w, i32_w]
      rfl
    refine take_ (i := 5) (N := some 34) (v := arrV data) (a' := ?_) #[true, true, true, true, true, true, false] rfl rfl (by kernel_rfl) (fun _ _ _ h => h) (Or.inl ⟨by rfl, ?_⟩) hHeld ?_ ?_
    · rintro w' ⟨s0, s1⟩
      exact run_ldarr (by rfl) (by rfl) s1 HD.out
    rotate_left
    · simp only [Act.put, List.setIfInBounds_toArray, List.set_cons_zero, List.set_cons_succ, i64_w, i32_w]
      rfl
    refine one_ (i := 6) (N := none) #[true, true, true, true, true, true, true] rfl rfl (by kernel_rfl) (by decide) (fun K hK => ?_)
    obtain ⟨w5, hup, hm5, hg5, hs5⟩ := YtlpjpmfhkmddjaaH.run_update (YtlpjpmfhkmddjaaH.int_key Try.underlying2) Try.underlying124 b data BM4.out
    refine skip_ (w1 := w5) (by rfl) rfl (run_exec_upd (by rfl) (by rfl) (by rfl) (by rfl) hup) ?_
    have BO5 := Aside0.mk (blk_grown BO4.out hg5 (ne_map BO4.out BM4.out))
    refine hK.out _ _ ⟨(blk_cell BO5.out 1).trans rfl, blk_grown hHeld.2 hg5 (ne_map hHeld.2 BM4.out)⟩ (fun hHeld => ?_)
    clear hK K
    refine done_ (by kernel_rfl) ?_
    try go_wp2
    go_end0
    refine ⟨rfl, vK, BO5.out, hm5, ?_, ?_, ?_⟩
    · exact Kd.R_mono (Kd.R_grown (Kd.R_types' RK4.out BM4.out) hg5 (fun k_ hk_ e_ => hk_.2 (by injection e_))) (fun _ hk_ => hk_.1)
    · exact pw_below_grown KB4.out (some gm) (Nat.le_trans HBs.out KB4.out.size) hg5 (fun k_ hk_ => by injection hk_ with hk_; exact hk_ ▸ HPM.out)
    · exact Kept.of_grown hg5 FB4.out (fun k_ hk_ => by injection hk_ with hk_; exact .inl (.inr (.inl hk_.symm)))
  | false =>
    go_enter Try.func88, Try.ntmps88
    go_wp2_with (first | ((with_reducible refine gate_dst (N := 5) rfl ?_); refine Go.Proofs.YtlpjpmfhkmddjaaH.box_arr (cs := (data.map (Value.int .u8)).toArray) rfl (t := 68) rfl (N := 5) rfl rfl ?_; intro g5 hg5 w1 hA5 hb1; have BO1 := Aside0.mk ((hb1.block _ (blk_lt BO.out)).trans BO.out); have BM1 := Aside0.mk (BM.out.move (hb1.block _ BM.out.lt)); have hc1 : w1.cell? ⟨gy, 1, none⟩ = some (.map (some gm)) := (blk_cell BO1.out 1).trans rfl; have hlk := run_look64 BM1.out b; rw [← HVE.out, ← HQE.out] at hlk; have HA5 := Aside0.mk hA5; have HG5 := Aside0.mk hg5; have HB1 := Aside0.mk hb1; clear hA5 hg5 hb1) | ((with_reducible refine gate_dst (N := 6) rfl ?_); refine Go.Proofs.YtlpjpmfhkmddjaaH.alloc_arr rfl (t := 68) rfl (N := 6) rfl (zs := (Array.replicate 64 (.int .u8 0))) (n := 64) (by kernel_rfl) ?_; intro g6 hg6 w2 hA6 hb2 _; have HG6 := Aside0.mk hg6; have HB2 := Aside0.mk hb2; have HA6 := Aside0.mk hA6; clear hA6 hg6 hb2 hlk hc1) | (refine Go.Proofs.YtlpjpmfhkmddjaaH.store_arr (g := g6) (cells := (v.map (Value.int .u8)).toArray) rfl (t := 68) rfl rfl rfl rfl HA6.out (by rw [arr_size HV.out]; kernel_rfl) (by rw [arr_size HV.out]; rfl) (arr_one v) ?_; intro w3 hA3 hg3; have hb2_ : Below W.heap.size W w2 := below_step HB1.out HB2.out; have hb3_ : Below W.heap.size W w3 := pw_below_grown hb2_ (some g6) hb2_.size hg3 (fun k_ hk_ => by injection hk_ with hk_; rw [← hk_, HG6.out]; exact HB1.out.size); have HA53 := Aside0.mk (blk_grown ((HB2.out.block _ (blk_lt HA5.out)).trans HA5.out) hg3 (by intro e_; injection e_ with e_; have h1_ := blk_lt HA5.out; rw [HG6.out] at e_; omega)); have HB3 := Aside0.mk hb3_; have hcK : w3.cell? ⟨gy, 0, none⟩ = some vK := (blk_cell ((HB3.out.block _ (blk_lt BO.out)).trans BO.out) 0).trans rfl; have hfK := blk_frozen ((HB3.out.block _ (blk_lt BO.out)).trans BO.out) 0; clear hA3 hg3 hb2_ hb3_) | ((with_reducible refine gate_builtin (b := .append) (xs := #[.tmp 23, .tmp 25]) rfl ?_); at_builtin; refine Kd.R_append (Kd.int .i64) (w0 := W) B rfl (.tmp 23) (.tmp 25) 57 2 (.int .i64 0) 8 rfl Try.underlying57 infoI64_ rfl (by decide) (by omega) vK (m.map Prod.fst) b [.int .i64 b] (fun k => k < s ∨ W.heap.size ≤ k) (fun _ => False) rfl rfl ?aP (fun _ hk => hk.elim) ?aF ?aO ?aB ?aS ?aL ?_; (case aP => exact rfl); (case aB => exact below_base HB3.out HBs.out); (case aF => exact (fun k_ hk => .inr (Nat.le_trans HB3.out.size hk))); (case aO => exact (Kd.R_mono (Kd.R_below RK.out HB3.out) (fun _ hk => .inl hk))); (case aS => exact Nat.le_trans HBs.out HB3.out.size); (case aL => have := HL.out; simp; omega); intro vK1 w7 ho hb7 hg7 hat7; obtain ⟨ks1, hks1⟩ : ∃ k_, k_ = m.map Prod.fst ++ [b] := ⟨_, rfl⟩; rw [← hks1] at ho; have HKS := Aside0.mk hks1; clear hks1; obtain ⟨A7, c7, e7⟩ := Kd.R_slice ho; subst e7; have hne_ : some gy ≠ vK.ownBlock := (Kd.R_ne (Kd.R_below RK.out HB3.out) ((HB3.out.block _ (blk_lt BO.out)).trans BO.out) (by decide)); have hbo7 := blk_grown ((HB3.out.block _ (blk_lt BO.out)).trans BO.out) hg7 hne_; have hcK7 : w7.cell? ⟨gy, 0, none⟩ = some vK := (blk_cell hbo7 0).trans rfl; have hfK7 := blk_frozen hbo7 0; have HO7 := Aside0.mk ho; have BO7 := Aside0.mk hbo7; have HG7 := Aside0.mk hg7; have HB7 := Aside0.mk hb7; have HAT7 := Aside0.mk hat7; (try clear ho hb7 hg7 hat7); (try clear hne_); (try clear hbo7); (try clear hcK); (try clear hfK)))
    have hg0 : YtlpjpmfhkmddjaaH.aget m b = none := by
      have := HQE.out
      cases hh : YtlpjpmfhkmddjaaH.aget m b with
      | none => rfl
      | some v0 => rw [hh] at this; cases this
    clear hcK7 hfK7
    have KB7 := Aside0.mk (below_base HB3.out HBs.out)
    have hbm3 := BM.out.move (HB3.out.block _ BM.out.lt)
    have hgm : some gm ≠ vK.ownBlock := fun e_ => by
      obtain ⟨cells, hc⟩ := Kd.R_typed (Kd.R_below RK.out HB3.out) gm e_.symm
      exact ne_map hc hbm3 rfl
    have hg5k : some g5 ≠ vK.ownBlock := fun e_ => by have h1_ := Kd.R_lt RK.out g5 e_.symm; rw [HG5.out] at h1_; omega
    have BO3 : Aside0 ((w7.setCell ⟨gy, 0, none⟩ (.slice A7 ks1.length c7)).heap[gy]? = some (.cells #[(.slice A7 ks1.length c7), .map (some gm)] 126 (0, 0))) := ⟨blk_put BO7.out 0 (.slice A7 ks1.length c7) rfl⟩
    have hm7 : w7.heap[gm]? = w3.heap[gm]? := HG7.out.block _ hbm3.lt hgm
    have hne : gm ≠ gy := fun e_ => ne_map ((HB3.out.block _ (blk_lt BO.out)).trans BO.out) hbm3 (by rw [e_])
    have BM3 : Aside0 (YtlpjpmfhkmddjaaH.MapIs (Value.int .i64) arrV (w7.setCell ⟨gy, 0, none⟩ (.slice A7 ks1.length c7)) gm m) := ⟨hbm3.move ((Below.heap_setCell w7 ⟨gy, 0, none⟩ (.slice A7 ks1.length c7) gm hne).trans hm7)⟩
    have RK3 : Aside0 ((Kd.int .i64).R 2 (w7.setCell ⟨gy, 0, none⟩ (.slice A7 ks1.length c7)) B (fun k => k < s ∨ W.heap.size ≤ k) (.slice A7 ks1.length c7) ((YtlpjpmfhkmddjaaH.aset m b data).map Prod.fst)) := ⟨by rw [YtlpjpmfhkmddjaaH.aset_new b data hg0, List.map_append, show m.map Prod.fst ++ [(b, data)].map Prod.fst = ks1 from HKS.out.symm]; exact Kd.R_set HO7.out BO7.out (by decide) 0 (.slice A7 ks1.length c7)⟩
    have HA53' : Aside0 ((w7.setCell ⟨gy, 0, none⟩ (.slice A7 ks1.length c7)).heap[g5]? = some (.cells (data.map (Value.int .u8)).toArray 68 (0, 0))) := ⟨blk_far (blk_grown HA53.out HG7.out hg5k) (fun e_ => by have h1_ := blk_lt BO.out; have e2_ : g5 = gy := e_; rw [← e2_, HG5.out] at h1_; omega) (.slice A7 ks1.length c7)⟩
    have KB3 : Aside0 (Below B W (w7.setCell ⟨gy, 0, none⟩ (.slice A7 ks1.length c7))) := ⟨Below.setCell HB7.out HPO.out (.slice A7 ks1.length c7)⟩
    have FB3 : Aside0 (Kept W (w7.setCell ⟨gy, 0, none⟩ (.slice A7 ks1.length c7)) (fun k => k = gy ∨ k = gm ∨ some k = vK.ownBlock)) := ⟨Kept.setCell (Kept.of_grown HG7.out (Kept.of_below HB3.out _) (fun k_ hk_ => .inl (.inr (.inr hk_.symm)))) (.inl (.inl rfl)) (.slice A7 ks1.length c7)⟩
    clear HA53 hbm3 hm7
    have HA53 := HA53'
    clear HA53'
    refine start_ (n := 7) (S := fun w' => w'.cell? ⟨gy, 1, none⟩ = some (.map (some gm)) ∧ w'.heap[g5]? = some (.cells (data.map (Value.int .u8)).toArray 68 (0, 0))) (ds := []) #[false, false, false, false, false, false, false] (by kernel_rfl) rfl rfl ⟨(blk_cell (blk_drew BO3.out) 1).trans rfl, blk_drew HA53.out⟩ (fun hHeld => ?_)
    have BO4 := Aside0.mk (blk_drew BO3.out); have BM4 := Aside0.mk (MapIs_drew BM3.out); have RK4 := Aside0.mk (Kd.R_drew RK3.out); have KB4 := Aside0.mk (KB3.out.drew); have FB4 := Aside0.mk (Kept.drew FB3.out); generalize (w7.setCell ⟨gy, 0, none⟩ (.slice A7 ks1.length c7)).drew = w4 at BO4 BM4 RK4 KB4 FB4 hHeld ⊢
    refine pure_ (i := 0) (N := some 29) (v := ?_) (a' := ?_) #[true, false, false, false, false, false, false] rfl rfl (by kernel_rfl) (fun _ _ _ h => h) (Or.inl ⟨by rfl, ?_⟩) ?_ ?_
    rotate_left
    · intro w'
      go_simp
      with_reducible rfl
    rotate_left
    · simp only [Act.put, List.setIfInBounds_toArray, List.set_cons_zero, List.set_cons_succ, i64_w, i32_w]
      rfl
    refine pure_ (i := 1) (N := some 30) (v := ?_) (a' := ?_) #[true, true, false, false, false, false, false] rfl rfl (by kernel_rfl) (fun _ _ _ h => h) (Or.inl ⟨by rfl, ?_⟩) ?_ ?_
    rotate_left
    · intro w'
      go_simp
      with_reducible rfl
    rotate_left
    · simp only [Act.put, List.setIfInBounds_toArray, List.set_cons_zero, List.set_cons_succ, i64_w, i32_w]
      rfl
    refine pure_ (i := 2) (N := some 31) (v := ?_) (a' := ?_) #[true, true, true, false, false, false, false] rfl rfl (by kernel_rfl) (fun _ _ _ h => h) (Or.inl ⟨by rfl, ?_⟩) ?_ ?_
    rotate_left
    · intro w'
      go_simp
      with_reducible rfl
    rotate_left
    · simp only [Act.put, List.setIfInBounds_toArray, List.set_cons_zero, List.set_cons_succ, i64_w, i32_w]
      rfl
    refine pure_ (i := 4) (N := some 33) (v := ?_) (a' := ?_) #[true, true, true, false, true, false, false] rfl rfl (by kernel_rfl) (fun _ _ _ h => h) (Or.inl ⟨by rfl, ?_⟩) ?_ ?_
    rotate_left
    · intro w'
      go_simp
      with_reducible rfl
    rotate_left
    · simp only [Act.put, List.setIfInBounds_toArray, List.set_cons_zero, List.set_cons_succ, i64_w, i32_w]
      rfl
    refine take_ (i := 3) (N := some 32) (v := ?_) (a' := ?_) #[true, true, true, true, true, false, false] rfl rfl (by kernel_rfl) (fun _ _ _ h => h) (Or.inl ⟨by rfl, ?_⟩) hHeld ?_ ?_
    rotate_left
    · rintro w' ⟨s0, s1⟩
      go_simp
      with_reducible rfl
    rotate_left
    · simp only [Act.put, List.setIfInBounds_toArray, List.set_cons_zero, List.set_cons_succ, i64_w, i32_w]
      rfl
    refine take_ (i := 5) (N := some 34) (v := arrV data) (a' := ?_) #[true, true, true, true, true, true, false] rfl rfl (by kernel_rfl) (fun _ _ _ h => h) (Or.inl ⟨by rfl, ?_⟩) hHeld ?_ ?_
    · rintro w' ⟨s0, s1⟩
      exact run_ldarr (by rfl) (by rfl) s1 HD.out
    rotate_left
    · simp only [Act.put, List.setIfInBounds_toArray, List.set_cons_zero, List.set_cons_succ, i64_w, i32_w]
      rfl
    refine one_ (i := 6) (N := none) #[true, true, true, true, true, true, true] rfl rfl (by kernel_rfl) (by decide) (fun K hK => ?_)
    obtain ⟨w5, hup, hm5, hg5, hs5⟩ := YtlpjpmfhkmddjaaH.run_update (YtlpjpmfhkmddjaaH.int_key Try.underlying2) Try.underlying124 b data BM4.out
    refine skip_ (w1 := w5) (by rfl) rfl (run_exec_upd (by rfl) (by rfl) (by rfl) (by rfl) hup) ?_
    have BO5 := Aside0.mk (blk_grown BO4.out hg5 (ne_map BO4.out BM4.out))
    refine hK.out _ _ ⟨(blk_cell BO5.out 1).trans rfl, blk_grown hHeld.2 hg5 (ne_map hHeld.2 BM4.out)⟩ (fun hHeld => ?_)
    clear hK K
    refine done_ (by kernel_rfl) ?_
    try go_wp2
    go_end0
    refine ⟨rfl, (.slice A7 ks1.length c7), BO5.out, hm5, ?_, ?_, ?_⟩
    · exact Kd.R_mono (Kd.R_grown (Kd.R_types' RK4.out BM4.out) hg5 (fun k_ hk_ e_ => hk_.2 (by injection e_))) (fun _ hk_ => hk_.1)
    · exact pw_below_grown KB4.out (some gm) (Nat.le_trans HBs.out KB4.out.size) hg5 (fun k_ hk_ => by injection hk_ with hk_; exact hk_ ▸ HPM.out)
    · exact Kept.of_grown hg5 FB4.out (fun k_ hk_ => by injection hk_ with hk_; exact .inl (.inr (.inl hk_.symm)))
theorem run_slice64 {o : Oper} {a : Act} {x : Operand} {w : World} {g : Nat} {l : List Int} (ho : o.op = .slice 68 x none none none) (hx : a.eval x = .pointer (some ⟨g, 0, none⟩)) (hl : l.length = 64) :
    (execOp a.eval o).run Try.prog w = .ok (.value (.slice (some ⟨g, 0, none⟩) l.length l.length)) w := by
  obtain ⟨i, hi, hz⟩ := Option.map_eq_some_iff.1 (show (Try.prog.info? 5).map (·.size) = some 1 by kernel_rfl)
  unfold execOp
  simp [ho, hx, Instr.sliceAt, Instr.sureAddr, run_underlying Try.underlying68, Instr.sliceBounds, sizeOf, typeInfo, hi, Addr.add, hl]
theorem read_arr {w : World} {g T : Nat} {l : List Int} (h : w.heap[g]? = some (.cells (l.map (Value.int .u8)).toArray T (0, 0))) (hl : l.length = 64) : (Kd.int .u8).C w (some ⟨g, 0, none⟩) l.length l :=
  (Kd.R_reads' (YtlpjpmfhkmddjaaH.R_of_arr (Value.int .u8) (fun _ => rfl) (base := 0) (ok := fun _ => True) h (Nat.zero_le _) trivial (by omega) (by omega))).2.2
theorem clone64 {l : List Int} (hl : l.length = 64) : slices_Clone_byte_byte.f l = some l := by
  simp only [slices_Clone_byte_byte.f, Option.bind_some, List.nil_append, List.length_nil]
  rw [if_pos (by omega)]
theorem Plat.drew {W : World} {B s gp : Nat} {dur : List Int} {pend : List S82} {m : List (Int × List Int)} {gy gm : Nat} {vD vP vK : Value} (h : Plat W B s gp dur pend m gy gm vD vP vK) : Plat W.drew B s gp dur pend m gy gm vD vP vK := h.move (fun _ _ _ => rfl) (Nat.le_refl _)
theorem Kd.R_keptSet {α : Type} {d : Kd α} {e B gy gm : Nat} {W w' : World} {ok : Nat → Prop} {v vK : Value} {xs : List α} {m : List (Int × List Int)} {cs : Array Value} {ks : List Int} {okK : Nat → Prop} (h : d.R e W B ok v xs) (hm : YtlpjpmfhkmddjaaH.MapIs (Value.int .i64) arrV W gm m)
    (ho : W.heap[gy]? = some (.cells cs 126 (0, 0))) (rk : (Kd.int .i64).R 2 W B okK vK ks) (ht : ∀ q, q ∈ e :: d.E → q ≠ 126 ∧ q ≠ 2) (hk : Kept W w' (fun k => k = gy ∨ k = gm ∨ some k = vK.ownBlock)) : d.R e w' B ok v xs := by
  refine Kd.R_mono (Kd.R_move (Kd.R_bound h) (fun k hb => ?_)) (fun _ hb => hb.1)
  obtain ⟨_, _, hlt, q, hq, cells, hc⟩ := hb
  refine hk.2 k hlt ?_
  rintro (rfl | rfl | h3)
  · rw [hc] at ho
    have : q = 126 := by injection ho with ho; injection ho
    exact (ht q hq).1 this
  · exact ne_map hc hm rfl
  · obtain ⟨c2, hc2⟩ := Kd.R_typed rk k h3.symm
    rw [hc] at hc2
    have : q = 2 := by injection hc2 with hc2; injection hc2
    exact (ht q hq).2 this
theorem Plat.afterSet {W w' : World} {B s gp : Nat} {dur : List Int} {pend : List S82} {m : List (Int × List Int)} {gy gm : Nat} {vD vP vK vK' : Value} {b : Int} {data : List Int} (h : Plat W B s gp dur pend m gy gm vD vP vK) (hs : s ≤ W.heap.size) (hd : data.length = 64)
    (bo : w'.heap[gy]? = some (.cells #[vK', .map (some gm)] 126 (0, 0))) (bm : YtlpjpmfhkmddjaaH.MapIs (Value.int .i64) arrV w' gm (YtlpjpmfhkmddjaaH.aset m b data)) (rk : (Kd.int .i64).R 2 w' B (fun k => k < s ∨ W.heap.size ≤ k) vK' ((YtlpjpmfhkmddjaaH.aset m b data).map Prod.fst))
    (hk : Kept W w' (fun k => k = gy ∨ k = gm ∨ some k = vK.ownBlock)) : Plat w' B w'.heap.size gp dur pend (YtlpjpmfhkmddjaaH.aset m b data) gy gm vD vP vK' where
  bp := (hk.2 gp (blk_lt h.bp) (by
    rintro (e | e | e)
    · have h1 := h.bp
      rw [e, h.bo] at h1
      injection h1 with h1; injection h1 with _ h1; exact absurd h1 (by decide)
    · exact ne_map h.bp h.bm (by rw [e])
    · obtain ⟨c2, hc2⟩ := Kd.R_typed h.rk gp e.symm
      rw [h.bp] at hc2
      injection hc2 with hc2; injection hc2 with _ hc2; exact absurd hc2 (by decide))).trans h.bp
  bo := bo
  bm := bm
  rd := Kd.R_mono (Kd.R_keptSet h.rd h.bm h.bo h.rk (by decide) hk) (fun k hk_ => by have := hk.1; omega)
  rp := Kd.R_mono (Kd.R_keptSet h.rp h.bm h.bo h.rk (by decide) hk) (fun k hk_ => ⟨by have := hk.1; have := hk_.1; omega, hk_.2⟩)
  rk := Kd.R_mono (Kd.R_bound rk) (fun k hk_ => hk_.2.2.1)
  pp := ⟨h.pp.1, by have := hk.1; have := h.pp.2; omega⟩
  po := ⟨h.po.1, by have := hk.1; have := h.po.2; omega⟩
  pm := ⟨h.pm.1, by have := hk.1; have := h.pm.2; omega⟩
  m64 := aset_64 h.m64 b hd
theorem keptSet_to {W w' : World} {B s gp : Nat} {dur : List Int} {pend : List S82} {m : List (Int × List Int)} {gy gm : Nat} {vD vP vK : Value} (h : Plat W B s gp dur pend m gy gm vD vP vK) (hk : Kept W w' (fun k => k = gy ∨ k = gm ∨ some k = vK.ownBlock)) : Kept W w' (fun k => B ≤ k ∧ k < s) :=
  hk.mono (by
    rintro k (rfl | rfl | e)
    · exact h.po
    · exact h.pm
    · exact ⟨Kd.R_base h.rk k e.symm, h.rk.1 k e.symm⟩)
theorem infoWr_ : (Try.prog.info? 82).map (fun i => (i.zero, i.size, i.bytes)) = some (some (.agg #[(.int .i64 0), (.slice none 0 0)]), 2, 32) := by kernel_rfl
set_option maxHeartbeats 4000000 in
set_option maxRecDepth 100000 in
theorem write_c (W : World) (B s gp : Nat) (dur : List Int) (pend : List S82) (m : List (Int × List Int)) (gy gm : Nat) (vD vP vK : Value) (b : Int) (data : List Int) (hd : data.length = 64) (hP : Plat W B s gp dur pend m gy gm vD vP vK) (hB : B ≤ W.heap.size) (hs : s ≤ W.heap.size) (hl : m.length ≤ 1000000) (hl2 : pend.length ≤ 1000000) :
    Calls Try.prog 64 #[.pointer (some ⟨gp, 0, none⟩), .int .i64 b, arrV data] W fun e w' => e = .returned (.tuple #[]) ∧ ∃ vP' vK', Plat w' B w'.heap.size gp dur (pend ++ [⟨b, data⟩]) (YtlpjpmfhkmddjaaH.aset m b data) gy gm vD vP' vK' ∧ Below B W w' ∧ Kept W w' (fun k => B ≤ k ∧ k < s) := by
  have HD := Aside0.mk hd
  have HP := Aside0.mk hP
  have HBs := Aside0.mk hB
  have HSs := Aside0.mk hs
  have HL := Aside0.mk hl
  have HL2 := Aside0.mk hl2
  clear hd hP hB hs hl hl2
  go_enter Try.func64, Try.ntmps64
  go_wp2_with (first | ((with_reducible refine gate_dst (N := 5) rfl ?_); refine Go.Proofs.YtlpjpmfhkmddjaaH.box_arr (cs := (data.map (Value.int .u8)).toArray) rfl (t := 68) rfl (N := 5) rfl rfl ?_; intro g5 hg5 w1 hA5 hb1; have HP1 := Aside0.mk (HP.out.below HSs.out hb1); have HA5 := Aside0.mk hA5; have HG5 := Aside0.mk hg5; have HB1 := Aside0.mk hb1; clear hA5 hg5 hb1))
  refine start_ (n := 7) (S := fun w' => w'.cell? ⟨gp, 2, none⟩ = some (.pointer (some ⟨gy, 0, none⟩)) ∧ w'.heap[g5]? = some (.cells (data.map (Value.int .u8)).toArray 68 (0, 0))) (ds := []) #[false, false, false, false, false, false, false] (by kernel_rfl) rfl rfl ⟨(blk_cell HP1.out.drew.bp 2).trans rfl, blk_drew HA5.out⟩ (fun hHeld => ?_)
  have HP2 := Aside0.mk HP1.out.drew; have HA52 := Aside0.mk (blk_drew HA5.out); have KB2 := Aside0.mk (below_drew HB1.out); generalize w1.drew = w2 at HP2 HA52 KB2 hHeld ⊢
  refine pure_ (i := 0) (N := some 6) (v := ?_) (a' := ?_) #[true, false, false, false, false, false, false] rfl rfl (by kernel_rfl) (fun _ _ _ h => h) (Or.inl ⟨by rfl, ?_⟩) ?_ ?_
  rotate_left
  · intro w'
    go_simp
    with_reducible rfl
  rotate_left
  · simp only [Act.put, List.setIfInBounds_toArray, List.set_cons_zero, List.set_cons_succ, i64_w, i32_w]
    rfl
  refine pure_ (i := 1) (N := some 7) (v := ?_) (a' := ?_) #[true, true, false, false, false, false, false] rfl rfl (by kernel_rfl) (fun _ _ _ h => h) (Or.inl ⟨by rfl, ?_⟩) ?_ ?_
  rotate_left
  · intro w'
    go_simp
    with_reducible rfl
  rotate_left
  · simp only [Act.put, List.setIfInBounds_toArray, List.set_cons_zero, List.set_cons_succ, i64_w, i32_w]
    rfl
  refine pure_ (i := 2) (N := some 8) (v := ?_) (a' := ?_) #[true, true, true, false, false, false, false] rfl rfl (by kernel_rfl) (fun _ _ _ h => h) (Or.inl ⟨by rfl, ?_⟩) ?_ ?_
  rotate_left
  · intro w'
    go_simp
    with_reducible rfl
  rotate_left
  · simp only [Act.put, List.setIfInBounds_toArray, List.set_cons_zero, List.set_cons_succ, i64_w, i32_w]
    rfl
  refine pure_ (i := 4) (N := some 10) (v := ?_) (a' := ?_) #[true, true, true, false, true, false, false] rfl rfl (by kernel_rfl) (fun _ _ _ h => h) (Or.inl ⟨by rfl, ?_⟩) ?_ ?_
  rotate_left
  · intro w'
    go_simp
    with_reducible rfl
  rotate_left
  · simp only [Act.put, List.setIfInBounds_toArray, List.set_cons_zero, List.set_cons_succ, i64_w, i32_w]
    rfl
  refine take_ (i := 3) (N := some 9) (v := ?_) (a' := ?_) #[true, true, true, true, true, false, false] rfl rfl (by kernel_rfl) (fun _ _ _ h => h) (Or.inl ⟨by rfl, ?_⟩) hHeld ?_ ?_
  rotate_left
  · rintro w' ⟨s0, s1⟩
    go_simp
    with_reducible rfl
  rotate_left
  · simp only [Act.put, List.setIfInBounds_toArray, List.set_cons_zero, List.set_cons_succ, i64_w, i32_w]
    rfl
  refine take_ (i := 5) (N := some 11) (v := arrV data) (a' := ?_) #[true, true, true, true, true, true, false] rfl rfl (by kernel_rfl) (fun _ _ _ h => h) (Or.inl ⟨by rfl, ?_⟩) hHeld ?_ ?_
  · rintro w' ⟨s0, s1⟩
    exact run_ldarr (by rfl) (by rfl) s1 HD.out
  rotate_left
  · simp only [Act.put, List.setIfInBounds_toArray, List.set_cons_zero, List.set_cons_succ, i64_w, i32_w]
    rfl
  refine one_ (i := 6) (N := some 12) #[true, true, true, true, true, true, true] rfl rfl (by kernel_rfl) (by decide) (fun K hK => ?_)
  refine goes_ Try.func88 (by kernel_rfl) rfl #[.pointer (some ⟨gy, 0, none⟩), .int .i64 b, arrV data] (by rfl) rfl rfl (by (try simp only [List.map_toArray, List.map_cons, List.map_nil]); first | done | rfl) ?_
  refine (set_c w2 B s gy gm vK m b data HD.out HP2.out.bo HP2.out.bm HP2.out.m64 HP2.out.rk HP2.out.po.1 HP2.out.pm.1 (Nat.le_trans HBs.out KB2.out.size) (Nat.le_trans HSs.out KB2.out.size) HL.out).mono ?_
  rintro e w3 ⟨rfl, vK3, bo3, bm3, rk3, hb3, hk3⟩
  refine ⟨_, rfl, ?_⟩
  have HP3 := Aside0.mk (HP2.out.afterSet (Nat.le_trans HSs.out KB2.out.size) HD.out bo3 bm3 rk3 hk3)
  have hn5 : s ≤ g5 := by rw [HG5.out]; exact HSs.out
  have FB3 := Aside0.mk (keptSet_to HP2.out hk3)
  have HA53 := Aside0.mk ((FB3.out.2 g5 (blk_lt HA52.out) (fun h_ => by omega)).trans HA52.out)
  have KB3 := Aside0.mk ((below_base KB2.out HBs.out).trans hb3)
  have FK3 : Aside0 (Kept W w3 (fun k => B ≤ k ∧ k < s)) := ⟨(Kept.of_below KB2.out _).then_ FB3.out (fun _ h_ => .inl h_)⟩
  have hs3 : W.heap.size ≤ w3.heap.size := Nat.le_trans KB2.out.size FB3.out.1
  have HS3 := Aside0.mk hs3
  clear bo3 bm3 rk3 hb3 hk3 hn5 hs3
  refine hK.out _ _ ⟨(blk_cell HP3.out.bp 2).trans rfl, HA53.out⟩ (fun hHeld => ?_)
  clear hK K
  refine norm_ (a' := ?_) ?_ ?_
  rotate_left
  · show Act.put _ (some 12) _ = _
    simp only [Act.put, List.setIfInBounds_toArray, List.set_cons_zero, List.set_cons_succ, i64_w, i32_w]
    rfl
  refine done_ (by kernel_rfl) ?_
  try go_wp2
  refine start_ (n := 14) (S := fun w' => w'.cell? ⟨gp, 1, none⟩ = some vP) (ds := [13]) #[false, false, false, false, false, false, false, false, false, false, false, false, false, false] (by kernel_rfl) rfl rfl ((blk_cell HP3.out.drew.bp 1).trans rfl) (fun hHeld => ?_)
  have HP4 := Aside0.mk HP3.out.drew; have HA54 := Aside0.mk (blk_drew HA53.out); have KB4 := Aside0.mk (below_drew KB3.out); have FK4 := Aside0.mk (Kept.drew FK3.out); have hs4 : w3.heap.size ≤ w3.drew.heap.size := Nat.le_refl _; have HS4 := Aside0.mk hs4; clear hs4; generalize w3.drew = w4 at HP4 HA54 KB4 FK4 HS4 hHeld ⊢
  refine pure_ (i := 0) (N := some 13) (v := ?_) (a' := ?_) #[true, false, false, false, false, false, false, false, false, false, false, false, false, false] rfl rfl (by kernel_rfl) (fun _ _ _ h => h) (Or.inl ⟨by rfl, ?_⟩) ?_ ?_
  rotate_left
  · intro w'
    go_simp
    with_reducible rfl
  rotate_left
  · simp only [Act.put, List.setIfInBounds_toArray, List.set_cons_zero, List.set_cons_succ, i64_w, i32_w]
    rfl
  refine pure_ (i := 1) (N := some 14) (v := ?_) (a' := ?_) #[true, true, false, false, false, false, false, false, false, false, false, false, false, false] rfl rfl (by kernel_rfl) (fun _ _ _ h => h) (Or.inl ⟨by rfl, ?_⟩) ?_ ?_
  rotate_left
  · intro w'
    go_simp
    with_reducible rfl
  rotate_left
  · simp only [Act.put, List.setIfInBounds_toArray, List.set_cons_zero, List.set_cons_succ, i64_w, i32_w]
    rfl
  refine pure_ (i := 2) (N := some 15) (v := ?_) (a' := ?_) #[true, true, true, false, false, false, false, false, false, false, false, false, false, false] rfl rfl (by kernel_rfl) (fun _ _ _ h => h) (Or.inl ⟨by rfl, ?_⟩) ?_ ?_
  rotate_left
  · intro w'
    go_simp
    with_reducible rfl
  rotate_left
  · simp only [Act.put, List.setIfInBounds_toArray, List.set_cons_zero, List.set_cons_succ, i64_w, i32_w]
    rfl
  refine pure_ (i := 3) (N := some 16) (v := ?_) (a' := ?_) #[true, true, true, true, false, false, false, false, false, false, false, false, false, false] rfl rfl (by kernel_rfl) (fun _ _ _ h => h) (Or.inl ⟨by rfl, ?_⟩) ?_ ?_
  rotate_left
  · intro w'
    go_simp
    with_reducible rfl
  rotate_left
  · simp only [Act.put, List.setIfInBounds_toArray, List.set_cons_zero, List.set_cons_succ, i64_w, i32_w]
    rfl
  refine pure_ (i := 5) (N := some 18) (v := ?_) (a' := ?_) #[true, true, true, true, false, true, false, false, false, false, false, false, false, false] rfl rfl (by kernel_rfl) (fun _ _ _ h => h) (Or.inl ⟨by rfl, ?_⟩) ?_ ?_
  rotate_left
  · intro w'
    go_simp
    with_reducible rfl
  rotate_left
  · simp only [Act.put, List.setIfInBounds_toArray, List.set_cons_zero, List.set_cons_succ, i64_w, i32_w]
    rfl
  refine pure_ (i := 6) (N := some 19) (v := .slice (some ⟨g5, 0, none⟩) data.length data.length) (a' := ?_) #[true, true, true, true, false, true, true, false, false, false, false, false, false, false] rfl rfl (by kernel_rfl) (fun _ _ _ h => h) (Or.inl ⟨by rfl, ?_⟩) ?_ ?_
  · intro w'
    exact run_slice64 (by rfl) (by rfl) HD.out
  rotate_left
  · simp only [Act.put, List.setIfInBounds_toArray, List.set_cons_zero, List.set_cons_succ, i64_w, i32_w]
    rfl
  refine take_ (i := 4) (N := some 17) (v := ?_) (a' := ?_) #[true, true, true, true, true, true, true, false, false, false, false, false, false, false] rfl rfl (by kernel_rfl) (fun _ _ _ h => h) (Or.inl ⟨by rfl, ?_⟩) hHeld ?_ ?_
  rotate_left
  · intro w' s0
    go_simp
    with_reducible rfl
  rotate_left
  · simp only [Act.put, List.setIfInBounds_toArray, List.set_cons_zero, List.set_cons_succ, i64_w, i32_w]
    rfl
  refine one_ (i := 7) (N := some 20) #[true, true, true, true, true, true, true, true, false, false, false, false, false, false] rfl rfl (by kernel_rfl) (by decide) (fun K hK => ?_)
  refine goes_ Try.func83 (by kernel_rfl) rfl #[.slice (some ⟨g5, 0, none⟩) data.length data.length] (by rfl) rfl rfl (by (try simp only [List.map_toArray, List.map_cons, List.map_nil]); first | done | rfl) ?_
  refine (slices_Clone_byte_byte.calls (some ⟨g5, 0, none⟩) data.length data data w4 (read_arr HA54.out HD.out) (Nat.le_refl _) (clone64 HD.out)).mono ?_
  rintro e w5 ⟨v20, rfl, ho5, hb5⟩
  obtain ⟨A20, c20, e20⟩ := Kd.R_slice ho5
  subst e20
  refine ⟨_, rfl, ?_⟩
  have HP5 := Aside0.mk (HP4.out.below HS4.out hb5)
  have HO5 := Aside0.mk ho5
  have HB5 := Aside0.mk hb5
  clear ho5 hb5
  refine hK.out _ _ ((blk_cell HP5.out.bp 1).trans rfl) (fun hHeld => ?_)
  clear hK K
  refine norm_ (a' := ?_) ?_ ?_
  rotate_left
  · show Act.put _ (some 20) _ = _
    simp only [Act.put, List.setIfInBounds_toArray, List.set_cons_zero, List.set_cons_succ, i64_w, i32_w]
    rfl
  refine pure_ (i := 8) (N := some 21) (v := ?_) (a' := ?_) #[true, true, true, true, true, true, true, true, true, false, false, false, false, false] rfl rfl (by kernel_rfl) (fun _ _ _ h => h) (Or.inl ⟨by rfl, ?_⟩) ?_ ?_
  rotate_left
  · intro w'
    go_simp
    with_reducible rfl
  rotate_left
  · simp only [Act.put, List.setIfInBounds_toArray, List.set_cons_zero, List.set_cons_succ, i64_w, i32_w]
    rfl
  refine one_ (i := 9) (N := some 22) #[true, true, true, true, true, true, true, true, true, true, false, false, false, false] rfl rfl (by kernel_rfl) (by decide) (fun K hK => ?_)
  refine value_ (w1 := ?_) (v := ?_) (by rfl) rfl ?_ ?_
  rotate_left 2
  · go_simp
    constructor
    · rfl
    · rfl
  refine hK.out _ _ ((blk_cell (blk_alloc HP5.out.bp _) 1).trans rfl) (fun hHeld => ?_)
  clear hK K
  refine norm_ (a' := ?_) ?_ ?_
  rotate_left
  · show Act.put _ (some 22) _ = _
    simp only [Act.put, List.setIfInBounds_toArray, List.set_cons_zero, List.set_cons_succ, i64_w, i32_w]
    rfl
  refine one_ (i := 10) (N := some 23) #[true, true, true, true, true, true, true, true, true, true, true, false, false, false] rfl rfl (by kernel_rfl) (by decide) (fun K hK => ?_)
  refine Kd.R_append_step k82 (w0 := W) B (by rfl) (.tmp 17) (.tmp 22) 39 82 (.agg #[(.int .i64 0), (.slice none 0 0)]) 32 rfl Try.underlying39 infoWr_ rfl (by decide) (by omega) vP pend ⟨b, data⟩ [.int .i64 b, .slice A20 data.length c20] (fun k => (k < w3.heap.size ∨ w4.heap.size ≤ k) ∧ some k ≠ vD.ownBlock) (fun k => w4.heap.size ≤ k) rfl rfl ?aP ?aQ ?aF ?aO ?aB ?aS ?aL ?_
  (case aP => exact k82_mkM _ _ _ _ (Kd.R_lower (Kd.R_mono (Kd.R_bound HO5.out) (fun k_ hk_ => hk_.2.1)) (Nat.le_trans HBs.out (Nat.le_trans HS3.out HS4.out))))
  (case aQ => exact (fun k_ hk_ => ⟨⟨.inr hk_, fun e_ => by have h1_ := Kd.R_lt HP4.out.rd k_ e_.symm; omega⟩, fun e_ => by have h1_ := Kd.R_lt HP4.out.rp k_ e_.symm; omega⟩))
  (case aF => exact (fun k_ hk_ => ⟨.inr (Nat.le_trans HB5.out.size hk_), fun e_ => by have h1_ := Kd.R_lt HP5.out.rd k_ e_.symm; omega⟩))
  (case aO => exact (Kd.R_mono HP5.out.rp (fun k_ hk_ => ⟨.inl hk_.1, hk_.2⟩)))
  (case aB => exact (below_then KB4.out (Nat.le_trans HBs.out (Nat.le_trans HS3.out HS4.out)) HB5.out))
  (case aS => exact Nat.le_trans HBs.out (Nat.le_trans HS3.out (Nat.le_trans HS4.out HB5.out.size)))
  (case aL => have := HL2.out; omega)
  intro vP6 w6 ho6 hb6 hg6 hat6
  obtain ⟨pn, hpn⟩ : ∃ p_, p_ = pend ++ [(⟨b, data⟩ : S82)] := ⟨_, rfl⟩
  rw [← hpn] at ho6
  have HPN := Aside0.mk hpn
  clear hpn
  obtain ⟨A6, c6, e6⟩ := Kd.R_slice ho6
  subst e6
  have hnp : some gp ≠ vP.ownBlock := Kd.R_ne HP5.out.rp HP5.out.bp (by decide)
  have BP6 := Aside0.mk (blk_grown HP5.out.bp hg6 hnp)
  have hc6 : w6.cell? ⟨gp, 1, none⟩ = some vP := (blk_cell BP6.out 1).trans rfl
  have hf6 := blk_frozen BP6.out 1
  have HO6 := Aside0.mk ho6
  have HB6 := Aside0.mk hb6
  have HG6 := Aside0.mk hg6
  clear ho6 hb6 hg6 hat6 hnp
  refine hK.out _ _ hc6 (fun hHeld => ?_)
  clear hK K
  refine norm_ (a' := ?_) ?_ ?_
  rotate_left
  · show Act.put _ (some 23) _ = _
    simp only [Act.put, List.setIfInBounds_toArray, List.set_cons_zero, List.set_cons_succ, i64_w, i32_w]
    rfl
  refine pure_ (i := 11) (N := some 24) (v := ?_) (a' := ?_) #[true, true, true, true, true, true, true, true, true, true, true, true, false, false] rfl rfl (by kernel_rfl) (fun _ _ _ h => h) (Or.inl ⟨by rfl, ?_⟩) ?_ ?_
  rotate_left
  · intro w'
    go_simp
    with_reducible rfl
  rotate_left
  · simp only [Act.put, List.setIfInBounds_toArray, List.set_cons_zero, List.set_cons_succ, i64_w, i32_w]
    rfl
  refine pure_ (i := 12) (N := some 25) (v := ?_) (a' := ?_) #[true, true, true, true, true, true, true, true, true, true, true, true, true, false] rfl rfl (by kernel_rfl) (fun _ _ _ h => h) (Or.inl ⟨by rfl, ?_⟩) ?_ ?_
  rotate_left
  · intro w'
    go_simp
    with_reducible rfl
  rotate_left
  · simp only [Act.put, List.setIfInBounds_toArray, List.set_cons_zero, List.set_cons_succ, i64_w, i32_w]
    rfl
  refine last_ (i := 13) (N := none) #[true, true, true, true, true, true, true, true, true, true, true, true, true, true] rfl rfl (by kernel_rfl) (by decide) (fun K hK => ?_)
  refine skip_ (w1 := w6.setCell ⟨gp, 1, none⟩ (.slice A6 pn.length c6)) (by rfl) rfl ?_ ?_
  · go_simp
  refine hK.out _ _ ?_
  clear hK K
  refine done_ (by kernel_rfl) ?_
  try go_wp2
  go_end0
  have hP5 := HP5.out
  have hgp : ∀ k, k ≠ gp → some k ≠ vP.ownBlock → k < w5.heap.size → (w6.setCell ⟨gp, 1, none⟩ (.slice A6 pn.length c6)).heap[k]? = w5.heap[k]? := fun k h1 h2 h3 => (Below.heap_setCell w6 ⟨gp, 1, none⟩ _ k h1).trans (HG6.out.block k h3 h2)
  have hsz : w5.heap.size ≤ (w6.setCell ⟨gp, 1, none⟩ (.slice A6 pn.length c6)).heap.size := by have := HG6.out.size; simpa using this
  have hs34 : w3.heap.size ≤ w5.heap.size := Nat.le_trans HS4.out HB5.out.size
  have typed : ∀ k q cells, w5.heap[k]? = some (.cells cells q (0, 0)) → q ≠ 116 → k ≠ gp := fun k q cells hc hq e_ => by
    rw [e_, hP5.bp] at hc; injection hc with hc; injection hc with _ hc; exact hq hc.symm
  have wrT : ∀ k q cells, w5.heap[k]? = some (.cells cells q (0, 0)) → q ≠ 82 → some k ≠ vP.ownBlock := fun k q cells hc hq e_ => by
    obtain ⟨c2, hc2⟩ := Kd.R_typed hP5.rp k e_.symm
    rw [hc] at hc2; injection hc2 with hc2; injection hc2 with _ hc2; exact hq hc2
  refine ⟨rfl, .slice A6 pn.length c6, vK3, ⟨?_, ?_, ?_, ?_, ?_, ?_, ?_, ?_, ?_, hP5.m64⟩, ?_, ?_⟩
  · exact blk_put BP6.out 1 _ rfl
  · exact (hgp _ (typed _ _ _ hP5.bo (by decide)) (wrT _ _ _ hP5.bo (by decide)) (blk_lt hP5.bo)).trans hP5.bo
  · exact hP5.bm.move (hgp _ (fun e_ => ne_map hP5.bp hP5.bm (by rw [e_])) (fun e_ => by obtain ⟨c2, hc2⟩ := Kd.R_typed hP5.rp gm e_.symm; exact ne_map hc2 hP5.bm rfl) hP5.bm.lt)
  · refine Kd.R_mono (Kd.R_move (Kd.R_bound hP5.rd) (fun k hk => ?_)) (fun k hk => by have := hk.1; omega)
    obtain ⟨_, _, hlt, q, hq, cells, hc⟩ := hk
    have hq' : q = 5 := by simpa using (show q ∈ [5] from hq)
    subst hq'
    exact hgp k (typed _ _ _ hc (by decide)) (wrT _ _ _ hc (by decide)) hlt
  · rw [← HPN.out]
    refine Kd.R_mono (Kd.R_bound (Kd.R_set HO6.out BP6.out (by decide) 1 _)) (fun k hk => ⟨?_, hk.1.2⟩)
    exact hk.2.2.1
  · refine Kd.R_mono (Kd.R_move (Kd.R_bound hP5.rk) (fun k hk => ?_)) (fun k hk => by have := hk.1; omega)
    obtain ⟨_, _, hlt, q, hq, cells, hc⟩ := hk
    have hq' : q = 2 := by simpa using (show q ∈ [2] from hq)
    subst hq'
    exact hgp k (typed _ _ _ hc (by decide)) (wrT _ _ _ hc (by decide)) hlt
  · exact ⟨hP5.pp.1, by have := hP5.pp.2; omega⟩
  · exact ⟨hP5.po.1, by have := hP5.po.2; omega⟩
  · exact ⟨hP5.pm.1, by have := hP5.pm.2; omega⟩
  · exact Below.setCell HB6.out hP5.pp.1 _
  · have hgpS : B ≤ gp ∧ gp < s := HP.out.pp
    have hk5 : Kept W w5 (fun k => B ≤ k ∧ k < s) := FK4.out.below HB5.out
    refine Kept.setCell (Kept.of_grown HG6.out hk5 (fun k_ hk_ => ?_)) (.inl hgpS) _
    exact .inl ⟨Kd.R_base HP.out.rp k_ hk_, (HP.out.rp.1 k_ hk_).1⟩
set_option maxHeartbeats 4000000 in
set_option maxRecDepth 100000 in
theorem place_c (W : World) (B s gp : Nat) (dur : List Int) (pend : List S82) (m : List (Int × List Int)) (gy gm : Nat) (vD vP vK : Value) (b : Nat) (hP : Plat W B s gp dur pend m gy gm vD vP vK) (hb : 64 * b + 64 ≤ dur.length) (hl : dur.length ≤ 100000000) :
    Calls Try.prog 86 #[.pointer (some ⟨gp, 0, none⟩), .int .i64 b] W fun e w' => ∃ gD cap, vD = .slice (some ⟨gD, 0, none⟩) dur.length cap ∧ dur.length ≤ cap ∧ e = .returned (.slice (some ⟨gD, 64 * b, none⟩) 64 (cap - 64 * b)) ∧ W = w' := by
  obtain ⟨gD, cap, hvD, _, _, _⟩ := Kd.R_form hP.rd (by omega)
  subst hvD
  have hcap := (Kd.R_reads' hP.rd).2.1
  have hc : W.cell? ⟨gp, 0, none⟩ = some (.slice (some ⟨gD, 0, none⟩) dur.length cap) := (blk_cell hP.bp 0).trans rfl
  obtain ⟨i0, hi0, hz0⟩ := Option.map_eq_some_iff.1 (show (Try.prog.info? 5).map (·.size) = some 1 by kernel_rfl)
  have hcut := cut_mid (P := Try.prog) 22 5 .i64 .i64 Try.underlying22 hi0 1 hz0 (some ⟨gD, 0, none⟩) dur.length cap ((b : Int) * 64) (((b : Int) + 1) * 64) (by omega) (by omega) (by omega) hcap
  have e1 : ((b : Int) * 64).toNat = 64 * b := by omega
  have e2 : (((b : Int) + 1) * 64).toNat = 64 * b + 64 := by omega
  rw [e1, e2, if_neg (by omega), Option.map_some, Nat.mul_one, add_plain, show 64 * b + 64 - 64 * b = 64 by omega] at hcut
  have h1 : (0 : Int) ≤ (b : Int) := by omega
  have h2 : (b : Int) ≤ 100000000 := by omega
  have HCAP := Aside0.mk hcap
  clear e1 e2 hi0 hz0 hP hb hl hcap
  go_enter Try.func86, Try.ntmps86
  go_wp2
  go_ret
  exact ⟨gD, cap, rfl, HCAP.out, rfl, rfl⟩
def readP (dur : List Int) (m : List (Int × List Int)) (b : Nat) : List Int := match YtlpjpmfhkmddjaaH.aget m b with
  | some v => v
  | none => (dur.take (64 * b + 64)).drop (64 * b)
theorem Plat.placeC {W : World} {B s gp : Nat} {dur : List Int} {pend : List S82} {m : List (Int × List Int)} {gy gm gD cap : Nat} {vP vK : Value} (h : Plat W B s gp dur pend m gy gm (.slice (some ⟨gD, 0, none⟩) dur.length cap) vP vK) {b : Nat} (hb : 64 * b + 64 ≤ dur.length) :
    (Kd.int .u8).C W (some ⟨gD, 64 * b, none⟩) ((dur.take (64 * b + 64)).drop (64 * b)).length ((dur.take (64 * b + 64)).drop (64 * b)) := by
  have hr := Kd.R_reads' h.rd
  have := Kd.C_mid hr.2.2 (lo := 64 * b) (hi := 64 * b + 64) (by omega) hb hr.2.1
  rw [if_neg (by have := hr.2.1; omega), Option.map_some, show 64 * b * (Kd.int .u8).sz = 64 * b from Nat.mul_one _, add_plain] at this
  exact this
theorem place_len {dur : List Int} {b : Nat} (hb : 64 * b + 64 ≤ dur.length) : ((dur.take (64 * b + 64)).drop (64 * b)).length = 64 := by
  rw [List.length_drop, List.length_take]; omega
set_option maxHeartbeats 4000000 in
set_option maxRecDepth 100000 in
theorem read_c (W : World) (B s gp : Nat) (dur : List Int) (pend : List S82) (m : List (Int × List Int)) (gy gm : Nat) (vD vP vK : Value) (b : Nat) (hP : Plat W B s gp dur pend m gy gm vD vP vK) (hs : s ≤ W.heap.size) (hb : 64 * b + 64 ≤ dur.length) (hl : dur.length ≤ 100000000) :
    Calls Try.prog 60 #[.pointer (some ⟨gp, 0, none⟩), .int .i64 b] W fun e w' => e = .returned (arrV (readP dur m b)) ∧ (readP dur m b).length = 64 ∧ Below W.heap.size W w' := by
  obtain ⟨v, hve⟩ : ∃ v, v = (YtlpjpmfhkmddjaaH.aget m b).getD z64 := ⟨_, rfl⟩
  obtain ⟨q, hqe⟩ : ∃ q, q = (YtlpjpmfhkmddjaaH.aget m b).isSome := ⟨_, rfl⟩
  have HV : Aside0 (v.length = 64) := ⟨by rw [hve]; exact aget_64 hP.m64 b⟩
  have HVE := Aside0.mk hve
  have HQE := Aside0.mk hqe
  have HP := Aside0.mk hP
  have HSs := Aside0.mk hs
  have HBd := Aside0.mk hb
  have HLd := Aside0.mk hl
  clear hve hqe hP hs hb hl
  cases q with
  | true =>
    have HR : Aside0 (readP dur m b = v) := ⟨by
      have := HQE.out
      rw [HVE.out]; unfold readP
      cases hh : YtlpjpmfhkmddjaaH.aget m b with
      | none => rw [hh] at this; cases this
      | some v0 => rfl⟩
    go_enter Try.func60, Try.ntmps60
    go_wp2_with (first | ((with_reducible refine gate_dst (N := 4) rfl ?_); refine Go.Proofs.YtlpjpmfhkmddjaaH.alloc_arr rfl (t := 68) rfl (N := 4) rfl (zs := (Array.replicate 64 (.int .u8 0))) (n := 64) (by kernel_rfl) ?_; intro g4 hg4 w1 hA4 hb1 _; have HP1 := Aside0.mk (HP.out.below HSs.out hb1); have hc1 : w1.cell? ⟨gp, 2, none⟩ = some (.pointer (some ⟨gy, 0, none⟩)) := (blk_cell HP1.out.bp 2).trans rfl; have HA4 := Aside0.mk hA4; have HG4 := Aside0.mk hg4; have HB1 := Aside0.mk hb1; clear hA4 hg4 hb1) | ((with_reducible refine gate_callee (f := 85) rfl ?_); refine goesL_ (some 13) rfl rfl Try.func85 (by kernel_rfl) rfl #[.pointer (some ⟨gy, 0, none⟩), .int .i64 b] rfl (by (try simp only [List.map_toArray, List.map_cons, List.map_nil]); first | done | rfl) ?_; refine (get_c w1 gy gm vK m b HP1.out.bo HP1.out.bm HP1.out.m64).mono ?_; rintro e w2 ⟨rfl, hb2⟩; rw [← HVE.out, ← HQE.out]; refine ⟨_, rfl, ?_⟩; have HP2 := Aside0.mk (HP1.out.below (Nat.le_trans HSs.out HB1.out.size) hb2); have HA42 := Aside0.mk ((hb2.block _ (blk_lt HA4.out)).trans HA4.out); have HB2 := Aside0.mk (below_step HB1.out hb2); have hlt2 : g4 < w2.heap.size := blk_lt HA42.out; have HLT2 := Aside0.mk hlt2; clear hb2 hc1 hlt2) | ((with_reducible refine gate_dst (N := 5) rfl ?_); refine Go.Proofs.YtlpjpmfhkmddjaaH.alloc_arr rfl (t := 68) rfl (N := 5) rfl (zs := (Array.replicate 64 (.int .u8 0))) (n := 64) (by kernel_rfl) ?_; intro g5 hg5 w3 hA5 hb3 _; have HP3 := Aside0.mk (HP2.out.below (Nat.le_trans HSs.out HB2.out.size) hb3); have HA43 := Aside0.mk ((hb3.block _ (blk_lt HA42.out)).trans HA42.out); have HB3 := Aside0.mk (below_step HB2.out hb3); have HA5 := Aside0.mk hA5; have hne45 : some g4 ≠ some g5 := (by intro e_; injection e_ with e_; have h1_ := HLT2.out; omega); have HNE := Aside0.mk hne45; have hge5 : W.heap.size ≤ g5 := (by rw [hg5]; exact HB2.out.size); have HGE5 := Aside0.mk hge5; clear hA5 hb3 hne45 hge5 hg5) | (refine Go.Proofs.YtlpjpmfhkmddjaaH.store_arr (g := g5) (cells := (v.map (Value.int .u8)).toArray) rfl (t := 68) rfl rfl rfl rfl HA5.out (by rw [arr_size HV.out]; kernel_rfl) (by rw [arr_size HV.out]; rfl) (arr_one v) ?_; intro w4 hA54 hg4_; have HA54 := Aside0.mk hA54; have HA44 := Aside0.mk (blk_grown HA43.out hg4_ HNE.out); have HP4 := Aside0.mk (HP3.out.move (fun k_ _ h2_ => hg4_.block k_ (Nat.lt_of_lt_of_le h2_ (Nat.le_trans HSs.out HB3.out.size)) (by intro e_; injection e_ with e_; have := HGE5.out; have := HSs.out; omega)) (Nat.le_refl _)); have HB4 := Aside0.mk (pw_below_grown HB3.out (some g5) HB3.out.size hg4_ (fun k_ hk_ => by injection hk_ with hk_; exact hk_ ▸ HGE5.out)); clear hA54 hg4_) | ((with_reducible refine gate_dst (N := 17) rfl ?_); refine Go.Proofs.YtlpjpmfhkmddjaaH.load_arr (Value.int .u8) (h1 := fun _ => rfl) rfl (t := 68) (e := 5) (n := 64) (A := some ⟨g5, 0, none⟩) (xs := v) rfl (N := 17) rfl rfl Try.underlying68 (by kernel_rfl) (by omega) HV.out.symm (read_arr HA54.out HV.out) ?_) | (refine Go.Proofs.YtlpjpmfhkmddjaaH.store_arr (g := g4) (cells := (v.map (Value.int .u8)).toArray) rfl (t := 68) rfl rfl rfl rfl HA44.out (by rw [arr_size HV.out]; kernel_rfl) (by rw [arr_size HV.out]; rfl) (arr_one v) ?_; intro w6 hA6 hg6; have HA6 := Aside0.mk hA6; have HG6 := Aside0.mk hg6; clear hA6 hg6))
    refine bodyPost_ret (results_cell_row rfl _ _ g4 68 _ (0, 0) _ rfl HA6.out Try.underlying68 rfl (by rw [arr_size HV.out]; kernel_rfl)) rfl ?_
    exact ⟨by rw [HR.out]; rfl, by rw [HR.out]; exact HV.out, pw_below_grown HB4.out (some g4) HB4.out.size HG6.out (fun k_ hk_ => by injection hk_ with hk_; rw [← hk_, HG4.out]; exact Nat.le_refl _)⟩
  | false =>
    have HR : Aside0 (readP dur m b = (dur.take (64 * b + 64)).drop (64 * b)) := ⟨by
      have := HQE.out
      unfold readP
      cases hh : YtlpjpmfhkmddjaaH.aget m b with
      | none => rfl
      | some v0 => rw [hh] at this; cases this⟩
    go_enter Try.func60, Try.ntmps60
    go_wp2_with (first | ((with_reducible refine gate_dst (N := 4) rfl ?_); refine Go.Proofs.YtlpjpmfhkmddjaaH.alloc_arr rfl (t := 68) rfl (N := 4) rfl (zs := (Array.replicate 64 (.int .u8 0))) (n := 64) (by kernel_rfl) ?_; intro g4 hg4 w1 hA4 hb1 _; have HP1 := Aside0.mk (HP.out.below HSs.out hb1); have hc1 : w1.cell? ⟨gp, 2, none⟩ = some (.pointer (some ⟨gy, 0, none⟩)) := (blk_cell HP1.out.bp 2).trans rfl; have HA4 := Aside0.mk hA4; have HG4 := Aside0.mk hg4; have HB1 := Aside0.mk hb1; clear hA4 hg4 hb1) | ((with_reducible refine gate_callee (f := 85) rfl ?_); refine goesL_ (some 13) rfl rfl Try.func85 (by kernel_rfl) rfl #[.pointer (some ⟨gy, 0, none⟩), .int .i64 b] rfl (by (try simp only [List.map_toArray, List.map_cons, List.map_nil]); first | done | rfl) ?_; refine (get_c w1 gy gm vK m b HP1.out.bo HP1.out.bm HP1.out.m64).mono ?_; rintro e w2 ⟨rfl, hb2⟩; rw [← HVE.out, ← HQE.out]; refine ⟨_, rfl, ?_⟩; have HP2 := Aside0.mk (HP1.out.below (Nat.le_trans HSs.out HB1.out.size) hb2); have HA42 := Aside0.mk ((hb2.block _ (blk_lt HA4.out)).trans HA4.out); have HB2 := Aside0.mk (below_step HB1.out hb2); have hlt2 : g4 < w2.heap.size := blk_lt HA42.out; have HLT2 := Aside0.mk hlt2; clear hb2 hc1 hlt2) | ((with_reducible refine gate_dst (N := 5) rfl ?_); refine Go.Proofs.YtlpjpmfhkmddjaaH.alloc_arr rfl (t := 68) rfl (N := 5) rfl (zs := (Array.replicate 64 (.int .u8 0))) (n := 64) (by kernel_rfl) ?_; intro g5 hg5 w3 hA5 hb3 _; have HP3 := Aside0.mk (HP2.out.below (Nat.le_trans HSs.out HB2.out.size) hb3); have HA43 := Aside0.mk ((hb3.block _ (blk_lt HA42.out)).trans HA42.out); have HB3 := Aside0.mk (below_step HB2.out hb3); have HA5 := Aside0.mk hA5; have hne45 : some g4 ≠ some g5 := (by intro e_; injection e_ with e_; have h1_ := HLT2.out; omega); have HNE := Aside0.mk hne45; have hge5 : W.heap.size ≤ g5 := (by rw [hg5]; exact HB2.out.size); have HGE5 := Aside0.mk hge5; clear hA5 hb3 hne45 hge5 hg5) | (refine Go.Proofs.YtlpjpmfhkmddjaaH.store_arr (g := g5) (cells := (v.map (Value.int .u8)).toArray) rfl (t := 68) rfl rfl rfl rfl HA5.out (by rw [arr_size HV.out]; kernel_rfl) (by rw [arr_size HV.out]; rfl) (arr_one v) ?_; intro w4 hA54 hg4_; have HA54 := Aside0.mk hA54; have HA44 := Aside0.mk (blk_grown HA43.out hg4_ HNE.out); have HP4 := Aside0.mk (HP3.out.move (fun k_ _ h2_ => hg4_.block k_ (Nat.lt_of_lt_of_le h2_ (Nat.le_trans HSs.out HB3.out.size)) (by intro e_; injection e_ with e_; have := HGE5.out; have := HSs.out; omega)) (Nat.le_refl _)); have HB4 := Aside0.mk (pw_below_grown HB3.out (some g5) HB3.out.size hg4_ (fun k_ hk_ => by injection hk_ with hk_; exact hk_ ▸ HGE5.out)); clear hA54 hg4_) | ((with_reducible refine gate_callee (f := 86) rfl ?_); refine goesL_ (some 20) rfl rfl Try.func86 (by kernel_rfl) rfl #[.pointer (some ⟨gp, 0, none⟩), .int .i64 b] rfl (by (try simp only [List.map_toArray, List.map_cons, List.map_nil]); first | done | rfl) ?_; refine (place_c w4 B s gp dur pend m gy gm vD vP vK b HP4.out HBd.out HLd.out).mono ?_; rintro e w5 ⟨gD, cap, hvD, hcap, rfl, rfl⟩; refine ⟨_, rfl, ?_⟩; have HVD := Aside0.mk hvD; clear hvD hcap) | ((with_reducible refine gate_dst (N := 21) rfl ?_); refine Go.Proofs.YtlpjpmfhkmddjaaH.to_arr rfl (t := 68) (e := 5) (n := 64) rfl (N := 21) rfl rfl Try.underlying68 (by omega) ?_) | ((with_reducible refine gate_dst (N := 22) rfl ?_); refine Go.Proofs.YtlpjpmfhkmddjaaH.load_arr (Value.int .u8) (h1 := fun _ => rfl) rfl (t := 68) (e := 5) (n := 64) (A := some ⟨gD, 64 * b, none⟩) (xs := (dur.take (64 * b + 64)).drop (64 * b)) rfl (N := 22) rfl rfl Try.underlying68 (by kernel_rfl) (by omega) (place_len HBd.out).symm (Plat.placeC (HVD.out ▸ HP4.out) HBd.out) ?_) | (refine Go.Proofs.YtlpjpmfhkmddjaaH.store_arr (g := g4) (cells := (((dur.take (64 * b + 64)).drop (64 * b)).map (Value.int .u8)).toArray) rfl (t := 68) rfl rfl rfl rfl HA44.out (by rw [arr_size (place_len HBd.out)]; kernel_rfl) (by rw [arr_size (place_len HBd.out)]; rfl) (arr_one _) ?_; intro w6 hA6 hg6; have HA6 := Aside0.mk hA6; have HG6 := Aside0.mk hg6; clear hA6 hg6))
    refine bodyPost_ret (results_cell_row rfl _ _ g4 68 _ (0, 0) _ rfl HA6.out Try.underlying68 rfl (by rw [arr_size (place_len HBd.out)]; kernel_rfl)) rfl ?_
    exact ⟨by rw [HR.out]; rfl, by rw [HR.out]; exact (place_len HBd.out), pw_below_grown HB4.out (some g4) HB4.out.size HG6.out (fun k_ hk_ => by injection hk_ with hk_; rw [← hk_, HG4.out]; exact Nat.le_refl _)⟩
theorem run_toarr {o : Oper} {a : Act} {x : Operand} {w : World} {A : Option Addr} {m c : Nat} (ho : o.op = .sliceToArrayPointer 68 x) (hx : a.eval x = .slice A m c) (hm : 64 ≤ m) : (execOp a.eval o).run Try.prog w = .ok (.value (.pointer A)) w := by
  unfold execOp
  simp [ho, hx, Instr.arrayAt, run_underlying Try.underlying68, show ¬ m < 64 by omega]
theorem run_ldC {o : Oper} {a : Act} {x : Operand} {W : World} {A : Option Addr} {xs : List Int} (ho : o.op = .load 68 x) (hx : a.eval x = .pointer A) (hl : xs.length = 64) (hr : (Kd.int .u8).C W A xs.length xs) : (execOp a.eval o).run Try.prog W = .ok (.value (arrV xs)) W := by
  obtain ⟨_, _, hr3⟩ := hr
  obtain ⟨ad, rfl, hr4⟩ := hr3 (by omega)
  have hl2 : (loadCells ad (xs.map (Value.int .u8)).length).run Try.prog W = .ok (xs.map (Value.int .u8)).toArray W := by
    refine run_loadCells_list (P := Try.prog) W ad _ (fun j v hv => ?_)
    rw [List.getElem?_map] at hv
    obtain ⟨y, hy, rfl⟩ := Option.map_eq_some_iff.mp hv
    obtain ⟨c, _, hc, hcc⟩ := hr4 j y hy
    have hc' : c = [Value.int .u8 y] := hc
    subst hc'
    have := hcc 0 (Value.int .u8 y) rfl
    simpa [Kd.int, Kd.scalar] using this
  obtain ⟨i, hi, hz⟩ := Option.map_eq_some_iff.1 (show (Try.prog.info? 68).map (·.size) = some 64 by kernel_rfl)
  have hagg : (isAgg 68).run Try.prog W = .ok true W := by
    unfold isAgg
    simp [run_underlying Try.underlying68]
  rw [List.length_map, hl] at hl2
  unfold execOp
  simp [ho, hx, Instr.loadAt, Instr.sureAddr, loadVar, hagg, sizeOf, typeInfo, hi, hz, hl2, arrV]
theorem cloneAny {l : List Int} (hl : l.length ≤ 100000000) : slices_Clone_byte_byte.f l = some l := by
  simp only [slices_Clone_byte_byte.f, Option.bind_some, List.nil_append, List.length_nil]
  rw [if_pos (by omega)]
def yng (l : List S82) : List (Int × List Int) := l.foldl (fun m p => YtlpjpmfhkmddjaaH.aset m p.f0 p.f1) []
theorem aset_len (m : List (Int × List Int)) (b : Int) (d : List Int) : (YtlpjpmfhkmddjaaH.aset m b d).length ≤ m.length + 1 := by
  induction m with
  | nil => simp [YtlpjpmfhkmddjaaH.aset]
  | cons q m ih =>
    obtain ⟨k, v⟩ := q
    simp only [YtlpjpmfhkmddjaaH.aset]
    by_cases c : k = b
    · rw [if_pos c]; simp
    · rw [if_neg c]; simp only [List.length_cons]; omega
theorem yng_snoc (l : List S82) (p : S82) : yng (l ++ [p]) = YtlpjpmfhkmddjaaH.aset (yng l) p.f0 p.f1 := by simp [yng]
theorem yng_len (l : List S82) : (yng l).length ≤ l.length := by
  suffices h : ∀ (l : List S82) (m : List (Int × List Int)), (l.foldl (fun m p => YtlpjpmfhkmddjaaH.aset m p.f0 p.f1) m).length ≤ m.length + l.length by
    have := h l []; simpa [yng] using this
  intro l
  induction l with
  | nil => intro m; simp
  | cons p l ih => intro m; simp only [List.foldl_cons, List.length_cons]; have := ih (YtlpjpmfhkmddjaaH.aset m p.f0 p.f1); have := aset_len m p.f0 p.f1; omega
theorem take_rd {l : List S82} {i : Nat} (h : i < l.length) : l.take (i + 1) = l.take i ++ [rd_T82 l (i : Int)] := by
  rw [List.take_add_one, List.getElem?_eq_getElem h]
  unfold rd_T82
  simp [h]
set_option maxHeartbeats 4000000 in
set_option maxRecDepth 100000 in
theorem spin_c (W : World) (A0 : Option Addr) (c0 : Nat) (dur : List Int) (A1 : Option Addr) (c1 : Nat) (pend : List S82) (hr0 : Kd.C (Kd.int .u8) W A0 dur.length dur) (hc0 : dur.length ≤ c0) (hr1 : Kd.C k82 W A1 pend.length pend) (hc1 : pend.length ≤ c1)
    (hv : ∀ i : Nat, i < pend.length → (rd_T82 pend (i : Int)).f1.length = 64) (hdl : dur.length ≤ 100000000) (hpl : pend.length ≤ 1000000) :
    Calls Try.prog 59 #[.agg #[.slice A0 dur.length c0, .slice A1 pend.length c1]] W fun e w' => ∃ gp gy gm vD vP vK, e = .returned (.pointer (some ⟨gp, 0, none⟩)) ∧ Plat w' W.heap.size w'.heap.size gp dur pend (yng pend) gy gm vD vP vK ∧ Below W.heap.size W w' := by
  have HR0 := Aside0.mk hr0
  have HC0 := Aside0.mk hc0
  have HR1 := Aside0.mk hr1
  have HC1 := Aside0.mk hc1
  have HV := Aside0.mk hv
  have HDL := Aside0.mk hdl
  have HPL := Aside0.mk hpl
  clear hr0 hc0 hr1 hc1 hv hdl hpl
  go_enter Try.func59, Try.ntmps59
  go_wp2_with (first | ((with_reducible refine gate_dst (N := 1) rfl ?_); refine Go.Proofs.YtlpjpmfhkmddjaaH.box_arr (cs := #[.slice A0 dur.length c0, .slice A1 pend.length c1]) rfl (t := 41) rfl (N := 1) rfl rfl ?_; intro g1 hg1 w1 hA1 hb1; have HA1 := Aside0.mk hA1; have HB1 := Aside0.mk hb1; have HG1 := Aside0.mk hg1; have hc10 : w1.cell? ⟨g1, 0, none⟩ = some (.slice A0 dur.length c0) := (blk_cell HA1.out 0).trans rfl; clear hA1 hb1 hg1) | ((with_reducible refine gate_callee (f := 83) rfl ?_); refine goesL_ (some 8) rfl rfl Try.func83 (by kernel_rfl) rfl #[.slice A0 dur.length c0] rfl (by (try simp only [List.map_toArray, List.map_cons, List.map_nil]); first | done | rfl) ?_; refine (slices_Clone_byte_byte.calls A0 c0 dur dur w1 (Kd.C_below HR0.out HB1.out) HC0.out (cloneAny HDL.out)).mono ?_; rintro e w2 ⟨vD, rfl, ho2, hb2⟩; obtain ⟨AD, cD, eD⟩ := Kd.R_slice ho2; subst eD; refine ⟨_, rfl, ?_⟩; have HO2 := Aside0.mk ho2; have HA12 := Aside0.mk ((hb2.block _ (blk_lt HA1.out)).trans HA1.out); have HB2 := Aside0.mk (below_step HB1.out hb2); have HS12 := Aside0.mk HB1.out.size; have HS2 := Aside0.mk hb2.size; clear ho2 hb2 hc10) | ((with_reducible refine gate_callee (f := 84) rfl ?_); refine goesL_ (some 9) rfl rfl Try.func84 (by kernel_rfl) rfl #[] rfl (by (try simp only [List.map_toArray, List.map_cons, List.map_nil]); first | done | rfl) ?_; refine (newOrd_c w2).mono ?_; rintro e w3 ⟨gy, gm, rfl, hgy, hgm, bo, bm, hb3⟩; refine ⟨_, rfl, ?_⟩; have HO3 := Aside0.mk (Kd.R_below HO2.out hb3); have HA13 := Aside0.mk ((hb3.block _ (blk_lt HA12.out)).trans HA12.out); have HB3 := Aside0.mk (below_step HB2.out hb3); have BO3 := Aside0.mk bo; have BM3 := Aside0.mk bm; have HGY := Aside0.mk (Nat.le_trans HB2.out.size hgy); have HGM := Aside0.mk (Nat.le_trans HB2.out.size hgm); clear hb3 bo bm hgy hgm) | ((with_reducible refine gate_dst (N := 11) rfl ?_); refine Go.Proofs.YtlpjpmfhkmddjaaH.box_arr (cs := #[.slice AD dur.length cD, .slice none 0 0, .pointer (some ⟨gy, 0, none⟩)]) rfl (t := 116) rfl (N := 11) rfl rfl ?_; intro gp hgp w4 hA4 hb4; have BP4 := Aside0.mk hA4; have HGP := Aside0.mk hgp; have HB4 := Aside0.mk (below_step HB3.out hb4); have HB34 := Aside0.mk hb4; have HA14 := Aside0.mk ((hb4.block _ (blk_lt HA13.out)).trans HA13.out); have hc11 : w4.cell? ⟨g1, 1, none⟩ = some (.slice A1 pend.length c1) := (blk_cell HA14.out 1).trans rfl; clear hA4 hb4 hgp))
  go_loopg [15] pend.length (fun kq v15 w' => ∃ (x : Int) (i : Nat) (vP vK : Value), v15 = .int .i64 x ∧ Aside0 (x = (i : Int)) ∧ Aside0 (i + kq = pend.length) ∧ Aside0 (Plat w' W.heap.size w'.heap.size gp dur (pend.take i) (yng (pend.take i)) gy gm (.slice AD dur.length cD) vP vK) ∧ Aside0 (Below W.heap.size W w'))
  case atStart =>
    have hs34 := HB34.out.size
    have hp : W.heap.size ≤ w4.heap.size := HB4.out.size
    exact ⟨0, 0, .slice none 0 0, .slice none 0 0, rfl, ⟨rfl⟩, ⟨by omega⟩, ⟨{
      bp := BP4.out
      bo := (HB34.out.block _ (blk_lt BO3.out)).trans BO3.out
      bm := BM3.out.move (HB34.out.block _ BM3.out.lt)
      rd := Kd.R_mono (Kd.R_bound (Kd.R_lower (Kd.R_below HO3.out HB34.out) HS12.out)) (fun k hk => hk.2.2.1)
      rp := Kd.R_nil _ _ _ _ _
      rk := Kd.R_nil _ _ _ _ _
      pp := ⟨by rw [HGP.out]; exact HB3.out.size, blk_lt BP4.out⟩
      po := ⟨HGY.out, Nat.lt_of_lt_of_le (blk_lt BO3.out) hs34⟩
      pm := ⟨HGM.out, Nat.lt_of_lt_of_le BM3.out.lt hs34⟩
      m64 := fun p hp_ => by cases hp_ }⟩, HB4⟩
  case round =>
    obtain ⟨x, i, vP, vK, rfl, HX, HK, HP, HB⟩ := hrel
    clear BP4 BO3 BM3 HO3 HB34 HA1 HA12 HA13 HA14 HB1 HB2 HB3 HB4 HS12 HS2 HGY HGM HGP hc11
    cases gk with
    | zero =>
      have hi : i = pend.length := by have := HK.out; omega
      subst hi
      have hx : x = (pend.length : Int) := HX.out
      clear HX
      subst hx
      have hlt : decide ((pend.length : Int) < (pend.length : Int)) = false := decide_eq_false (by omega)
      go_wp2
      go_ret
      have h1 := HP.out
      rw [List.take_length] at h1
      exact ⟨gp, gy, gm, _, _, _, rfl, h1, HB.out⟩
    | succ k2 =>
      have p0 : (0 : Int) ≤ x := by have := HX.out; omega
      have q0 : x < (pend.length : Int) := by have := HK.out; have := HX.out; omega
      have hi : i < pend.length := by have := HK.out; omega
      have hlt : decide (x < (pend.length : Int)) = true := decide_eq_true q0
      obtain ⟨ad, A, c, e1, hx0, hx1, hl1, hi1⟩ := at_T82 HR1.out x p0 q0
      cases e1
      replace hx0 := (HB.out.cell (World.block_lt_of_cell? W _ hx0)).trans hx0
      replace hx1 := (HB.out.cell (World.block_lt_of_cell? W _ hx1)).trans hx1
      have HI1 := Aside0.mk hi1
      have HL1 := Aside0.mk hl1
      have h64 : (rd_T82 pend x).f1.length = 64 := by rw [HX.out]; exact HV.out i hi
      have H64 := Aside0.mk h64
      have HIL := Aside0.mk hi
      have HT := Aside0.mk (take_rd hi)
      rw [← HX.out] at HT
      clear hi1 hl1 h64 hi
      obtain ⟨row, hrow⟩ : ∃ r_, r_ = rd_T82 pend x := ⟨_, rfl⟩
      rw [← hrow] at hx0 hx1 HI1 HL1 H64 HT
      clear hrow
      obtain ⟨rb, rl⟩ := row
      simp only at hx0 hx1 HI1 HL1 H64 HT
      replace p0 := eq_true p0
      replace q0 := eq_true q0
      go_wp2_with (first | ((with_reducible refine gate_dst (N := 5) rfl ?_); refine Go.Proofs.YtlpjpmfhkmddjaaH.alloc_arr rfl (t := 82) rfl (N := 5) rfl (zs := #[.int .i64 0, .slice none 0 0]) (n := 2) (by kernel_rfl) ?_; intro g5 hg5 w5 hA5 hb5 _; have HP5 := Aside0.mk (HP.out.below (Nat.le_refl _) hb5); have HB5 := Aside0.mk (below_step HB.out hb5); have HA5 := Aside0.mk hA5; have HG5 := Aside0.mk hg5; have HS5 := Aside0.mk hb5.size; clear hA5 hg5 hb5) | (refine Go.Proofs.YtlpjpmfhkmddjaaH.store_arr (g := g5) (cells := #[.int .i64 rb, .slice A rl.length c]) rfl (t := 82) rfl rfl rfl rfl HA5.out (by kernel_rfl) rfl (by kernel_rfl) ?_; intro w6 hA56 hg6_; have HA56 := Aside0.mk hA56; have HP6 := Aside0.mk (HP5.out.move (fun k_ _ h2_ => hg6_.block k_ (Nat.lt_of_lt_of_le h2_ HS5.out) (by intro e_; injection e_ with e_; have := HG5.out; omega)) (Nat.le_refl _)); have HB6 := Aside0.mk (pw_below_grown HB5.out (some g5) HB5.out.size hg6_ (fun k_ hk_ => by injection hk_ with hk_; rw [← hk_, HG5.out]; exact HB.out.size)); have HS6 := Aside0.mk (Nat.le_trans HS5.out hg6_.size); clear hA56 hg6_))
      refine start_ (n := 8) (S := fun w' => w'.cell? ⟨g5, 0, none⟩ = some (.int .i64 rb) ∧ w'.cell? ⟨g5, 1, none⟩ = some (.slice A rl.length c) ∧ Kd.C (Kd.int .u8) w' A rl.length rl) (ds := []) #[false, false, false, false, false, false, false, false] (by kernel_rfl) rfl rfl ⟨(blk_cell (blk_drew HA56.out) 0).trans rfl, (blk_cell (blk_drew HA56.out) 1).trans rfl, Kd.C_below HI1.out (below_drew HB6.out)⟩ (fun hHeld => ?_)
      have HP7 := Aside0.mk HP6.out.drew; have HB7 := Aside0.mk (below_drew HB6.out); have HS7 := Aside0.mk (Nat.le_trans HS6.out (below_drew (Below.refl w6.heap.size w6)).size); have HA57 := Aside0.mk (blk_drew HA56.out); generalize w6.drew = w7 at HP7 HB7 HS7 HA57 hHeld ⊢
      refine pure_ (i := 0) (N := some 19) (v := ?_) (a' := ?_) #[true, false, false, false, false, false, false, false] rfl rfl (by kernel_rfl) (fun _ _ _ h => h) (Or.inl ⟨by rfl, ?_⟩) ?_ ?_
      rotate_left
      · intro w'
        go_simp
        with_reducible rfl
      rotate_left
      · simp only [Act.put, List.setIfInBounds_toArray, List.set_cons_zero, List.set_cons_succ, i64_w, i32_w]
        rfl
      refine pure_ (i := 1) (N := some 20) (v := ?_) (a' := ?_) #[true, true, false, false, false, false, false, false] rfl rfl (by kernel_rfl) (fun _ _ _ h => h) (Or.inl ⟨by rfl, ?_⟩) ?_ ?_
      rotate_left
      · intro w'
        go_simp
        with_reducible rfl
      rotate_left
      · simp only [Act.put, List.setIfInBounds_toArray, List.set_cons_zero, List.set_cons_succ, i64_w, i32_w]
        rfl
      refine pure_ (i := 3) (N := some 22) (v := ?_) (a' := ?_) #[true, true, false, true, false, false, false, false] rfl rfl (by kernel_rfl) (fun _ _ _ h => h) (Or.inl ⟨by rfl, ?_⟩) ?_ ?_
      rotate_left
      · intro w'
        go_simp
        with_reducible rfl
      rotate_left
      · simp only [Act.put, List.setIfInBounds_toArray, List.set_cons_zero, List.set_cons_succ, i64_w, i32_w]
        rfl
      refine take_ (i := 2) (N := some 21) (v := ?_) (a' := ?_) #[true, true, true, true, false, false, false, false] rfl rfl (by kernel_rfl) (fun _ _ _ h => h) (Or.inl ⟨by rfl, ?_⟩) hHeld ?_ ?_
      rotate_left
      · rintro w' ⟨s0, s1, s2⟩
        go_simp
        with_reducible rfl
      rotate_left
      · simp only [Act.put, List.setIfInBounds_toArray, List.set_cons_zero, List.set_cons_succ, i64_w, i32_w]
        rfl
      refine take_ (i := 4) (N := some 23) (v := ?_) (a' := ?_) #[true, true, true, true, true, false, false, false] rfl rfl (by kernel_rfl) (fun _ _ _ h => h) (Or.inl ⟨by rfl, ?_⟩) hHeld ?_ ?_
      rotate_left
      · rintro w' ⟨s0, s1, s2⟩
        go_simp
        with_reducible rfl
      rotate_left
      · simp only [Act.put, List.setIfInBounds_toArray, List.set_cons_zero, List.set_cons_succ, i64_w, i32_w]
        rfl
      refine pure_ (i := 5) (N := some 24) (v := .pointer A) (a' := ?_) #[true, true, true, true, true, true, false, false] rfl rfl (by kernel_rfl) (fun _ _ _ h => h) (Or.inl ⟨by rfl, ?_⟩) ?_ ?_
      · intro w'
        exact run_toarr (by rfl) (by rfl) (by have := H64.out; omega)
      rotate_left
      · simp only [Act.put, List.setIfInBounds_toArray, List.set_cons_zero, List.set_cons_succ, i64_w, i32_w]
        rfl
      refine take_ (i := 6) (N := some 25) (v := arrV rl) (a' := ?_) #[true, true, true, true, true, true, true, false] rfl rfl (by kernel_rfl) (fun _ _ _ h => h) (Or.inl ⟨by rfl, ?_⟩) hHeld ?_ ?_
      · rintro w' ⟨s0, s1, s2⟩
        exact run_ldC (by rfl) (by rfl) H64.out s2
      rotate_left
      · simp only [Act.put, List.setIfInBounds_toArray, List.set_cons_zero, List.set_cons_succ, i64_w, i32_w]
        rfl
      refine one_ (i := 7) (N := some 26) #[true, true, true, true, true, true, true, true] rfl rfl (by kernel_rfl) (by decide) (fun K hK => ?_)
      refine goes_ Try.func64 (by kernel_rfl) rfl #[.pointer (some ⟨gp, 0, none⟩), .int .i64 rb, arrV rl] (by rfl) rfl rfl (by (try simp only [List.map_toArray, List.map_cons, List.map_nil]); first | done | rfl) ?_
      refine (write_c w7 W.heap.size _ gp dur _ _ gy gm _ vP vK rb rl H64.out HP7.out HB7.out.size HS7.out (by have h1_ := yng_len (pend.take i); have h2_ := HPL.out; rw [List.length_take] at h1_; omega) (by have h2_ := HPL.out; rw [List.length_take]; omega)).mono ?_
      rintro e w8 ⟨rfl, vP', vK', hP8, hb8, hk8⟩
      refine ⟨_, rfl, ?_⟩
      have HBN := Aside0.mk (HB7.out.trans hb8)
      have HPN := Aside0.mk hP8
      rw [show (⟨rb, rl⟩ : S82) = ⟨rb, rl⟩ from rfl, ← HT.out] at HPN
      have hyn : YtlpjpmfhkmddjaaH.aset (yng (pend.take i)) rb rl = yng (pend.take (i + 1)) := by rw [HT.out, yng_snoc]
      rw [hyn] at HPN
      have HA58 := Aside0.mk ((hk8.2 g5 (blk_lt HA57.out) (fun h_ => by have := HG5.out; omega)).trans HA57.out)
      clear hP8 hb8 hk8 hyn
      refine hK.out _ _ ⟨(blk_cell HA58.out 0).trans rfl, (blk_cell HA58.out 1).trans rfl, Kd.C_below HI1.out HBN.out⟩ (fun hHeld => ?_)
      clear hK K
      refine norm_ (a' := ?_) ?_ ?_
      rotate_left
      · show Act.put _ (some 26) _ = _
        simp only [Act.put, List.setIfInBounds_toArray, List.set_cons_zero, List.set_cons_succ, i64_w, i32_w]
        rfl
      refine done_ (by kernel_rfl) ?_
      try go_wp2
      go_roundg k2
      case measure => omega
      case rel =>
        refine ⟨_, i + 1, vP', vK', rfl, ⟨?_⟩, ⟨by have := HK.out; omega⟩, HPN, HBN⟩
        have := HX.out
        have := HIL.out
        have := HPL.out
        unfold wrap64
        omega
theorem pend_all {l : List S82} (h : l.all (fun p => decide (p.f1.length = 64)) = true) : ∀ i : Nat, i < l.length → (rd_T82 l (i : Int)).f1.length = 64 := by
  intro i hi
  have h1 := List.all_eq_true.mp h (l[i]) (List.getElem_mem hi)
  unfold rd_T82
  simpa [hi] using h1
theorem pend_le (l : List S82) (h : l.all (fun p => decide (p.f1.length = 64)) = true) : ∀ i : Nat, i < l.length → (rd_T82 l (i : Int)).f1.length ≤ 100000000 := fun i hi => by rw [pend_all h i hi]; omega
/-! ### an area of a disk as one row -/
theorem infoU8_ : (Try.prog.info? 5).map (fun i => (i.zero, i.size, i.bytes)) = some (some (.int .u8 0), 1, 1) := by kernel_rfl
def bytesD (dur : List Int) (m : List (Int × List Int)) (fi : Nat) : Nat → List Int
  | 0 => []
  | n + 1 => bytesD dur m fi n ++ readP dur m (fi + n)
theorem bytesD_len {dur : List Int} {m : List (Int × List Int)} {fi : Nat} (h : ∀ b, 64 * b + 64 ≤ dur.length → (readP dur m b).length = 64) {n : Nat} (hn : 64 * (fi + n) ≤ dur.length) : (bytesD dur m fi n).length = 64 * n := by
  induction n with
  | zero => rfl
  | succ n ih => simp only [bytesD, List.length_append]; rw [ih (by omega), h _ (by omega)]; omega
theorem readP_len {dur : List Int} {m : List (Int × List Int)} (h64 : ∀ p ∈ m, p.2.length = 64) : ∀ b, 64 * b + 64 ≤ dur.length → (readP dur m b).length = 64 := by
  intro b hb
  have := aget_64 h64 (b : Int)
  unfold readP
  cases he : YtlpjpmfhkmddjaaH.aget m (b : Int) with
  | none => exact place_len hb
  | some v => rw [he] at this; exact this
def areaFirst (c0 c1 bank : Int) (lg : Bool) : Int := if lg = true then 2 + bank * (c0 + c1) + c0 else 2 + bank * (c0 + c1)
def areaLen (c0 c1 : Int) (lg : Bool) : Int := if lg = true then c1 else c0
structure AreaOk (c0 c1 bank : Int) (n : Nat) : Prop where
  a0 : 1 ≤ c0 ∧ c0 ≤ 64
  a1 : 1 ≤ c1 ∧ c1 ≤ 64
  ab : bank = 0 ∨ bank = 1
  an : (n : Int) = 64 * (2 + 2 * (c0 + c1))
theorem AreaOk.first {c0 c1 bank : Int} {n : Nat} (h : AreaOk c0 c1 bank n) (lg : Bool) : impl_Config_area.f c0 c1 bank lg = some (areaFirst c0 c1 bank lg, areaLen c0 c1 lg) ∧ 2 ≤ areaFirst c0 c1 bank lg ∧ 1 ≤ areaLen c0 c1 lg ∧ 64 * (areaFirst c0 c1 bank lg + areaLen c0 c1 lg) ≤ n := by
  obtain ⟨⟨h1, h2⟩, ⟨h3, h4⟩, h5, h6⟩ := h
  unfold impl_Config_area.f areaFirst areaLen
  have w : ∀ x : Int, 0 ≤ x → x ≤ 1000 → wrap64 x = x := fun x h1 h2 => by unfold wrap64; omega
  rcases h5 with rfl | rfl
  · rw [w (c0 + c1) (by omega) (by omega), Int.zero_mul, w 0 (by omega) (by omega), w (2 + 0) (by omega) (by omega)]
    cases lg
    · simp only [if_neg (show ¬ (false = true) by decide)]; exact ⟨trivial, by omega, by omega, by omega⟩
    · simp only [if_pos]; rw [w (2 + 0 + c0) (by omega) (by omega)]; exact ⟨rfl, by omega, by omega, by omega⟩
  · rw [w (c0 + c1) (by omega) (by omega), Int.one_mul, w (c0 + c1) (by omega) (by omega), w (2 + (c0 + c1)) (by omega) (by omega)]
    cases lg
    · simp only [if_neg (show ¬ (false = true) by decide)]; exact ⟨trivial, by omega, by omega, by omega⟩
    · simp only [if_pos]; rw [w (2 + (c0 + c1) + c0) (by omega) (by omega)]; exact ⟨rfl, by omega, by omega, by omega⟩
set_option maxHeartbeats 8000000 in
set_option maxRecDepth 100000 in
theorem bytes_c (W : World) (B s gp : Nat) (dur : List Int) (pend : List S82) (m : List (Int × List Int)) (gy gm : Nat) (vD vP vK : Value) (c0 c1 bank : Int) (lg : Bool) (hP : Plat W B s gp dur pend m gy gm vD vP vK) (hs : s ≤ W.heap.size) (hdl : dur.length ≤ 100000000) (hok : AreaOk c0 c1 bank dur.length) :
    Calls Try.prog 74 #[.pointer (some ⟨gp, 0, none⟩), .agg #[.int .i64 c0, .int .i64 c1], .int .i64 bank, .bool lg] W fun e w' => ∃ v0_ : Value, e = .returned v0_ ∧ Kd.R (Kd.int .u8) 5 w' W.heap.size (fun _ => True) v0_ (bytesD dur m (areaFirst c0 c1 bank lg).toNat (areaLen c0 c1 lg).toNat) ∧ Below W.heap.size W w' := by
  obtain ⟨har, hf1, hf2, hf3⟩ := hok.first lg
  obtain ⟨fi, hfi⟩ : ∃ f_ : Nat, areaFirst c0 c1 bank lg = (f_ : Int) := ⟨(areaFirst c0 c1 bank lg).toNat, by omega⟩
  obtain ⟨n, hn⟩ : ∃ f_ : Nat, areaLen c0 c1 lg = (f_ : Int) := ⟨(areaLen c0 c1 lg).toNat, by omega⟩
  rw [hfi, hn] at har hf3 ⊢
  have HAR := Aside0.mk har
  have HP := Aside0.mk hP
  have HS := Aside0.mk hs
  have HDL := Aside0.mk hdl
  have HFN : Aside0 (64 * (fi + n) ≤ dur.length) := ⟨by omega⟩
  have H64R := Aside0.mk (readP_len (dur := dur) hP.m64)
  have hu := Try.underlying54
  have hw1 : wrap64 ((fi : Int) + (n : Int)) = ((fi + n : Nat) : Int) := by unfold wrap64; omega
  rw [Int.toNat_natCast, Int.toNat_natCast]
  clear har hf1 hf2 hf3 hfi hn hP hs hdl hok
  go_enter Try.func74, Try.ntmps74
  go_wp2_with (first | ((with_reducible refine gate_dst (N := 5) rfl ?_); refine Go.Proofs.YtlpjpmfhkmddjaaH.box_arr (cs := #[.int .i64 c0, .int .i64 c1]) rfl (t := 54) rfl (N := 5) rfl rfl ?_; intro g5 hg5 w1 hA5 hb_; have HA5 := Aside0.mk hA5; have HB1 := Aside0.mk hb_; have hc50 : w1.cell? ⟨g5, 0, none⟩ = some (.int .i64 c0) := (blk_cell HA5.out 0).trans rfl; have hc51 : w1.cell? ⟨g5, 1, none⟩ = some (.int .i64 c1) := (blk_cell HA5.out 1).trans rfl; clear hA5 hb_ hg5) | ((with_reducible refine gate_callee (f := 92) rfl ?_); refine goesL_ (some 18) rfl rfl Try.func92 (by kernel_rfl) rfl #[.agg #[.int .i64 c0, .int .i64 c1], .int .i64 bank, .bool lg] rfl (by (try simp only [List.map_toArray, List.map_cons, List.map_nil]); first | done | rfl) ?_; refine (impl_Config_area.calls c0 c1 bank lg (fi : Int) (n : Int) w1 HAR.out).mono ?_; rintro e w2 ⟨rfl, hb_⟩; refine ⟨_, rfl, ?_⟩; have HB2 := Aside0.mk (below_step HB1.out hb_); clear hb_ hc50 hc51))
  go_loopg [11, 12] n (fun kq v11 v12 w' => ∃ (x : Int) (i : Nat), v12 = .int .i64 x ∧ Aside0 (x = ((fi + i : Nat) : Int)) ∧ Aside0 (i + kq = n) ∧ Aside0 (Kd.R (Kd.int .u8) 5 w' W.heap.size (fun _ => True) v11 (bytesD dur m fi i)) ∧ Aside0 (Below W.heap.size W w'))
  case atStart => exact ⟨(fi : Int), 0, rfl, ⟨rfl⟩, ⟨by omega⟩, ⟨Kd.R_nil _ _ _ _ _⟩, HB2⟩
  case round =>
    clear HB1 HB2 HA5
    obtain ⟨x, i, rfl, HX, HK, HO, HB⟩ := hrel
    cases gk with
    | zero =>
      have hi : i = n := by have := HK.out; omega
      subst hi
      have hx : x = ((fi + i : Nat) : Int) := HX.out
      clear HX
      subst hx
      have hlt : decide (((fi + i : Nat) : Int) < ((fi + i : Nat) : Int)) = false := decide_eq_false (by omega)
      go_wp2
      go_ret
      exact ⟨_, rfl, HO.out, HB.out⟩
    | succ k2 =>
      have hi : i < n := by have := HK.out; omega
      have HI := Aside0.mk hi
      have hx : x = ((fi + i : Nat) : Int) := HX.out
      clear HX
      subst hx
      have hlt : decide (((fi + i : Nat) : Int) < ((fi + n : Nat) : Int)) = true := decide_eq_true (by omega)
      have hin : decide (i < n) = true := decide_eq_true hi
      have hin2 : (i < n) = True := eq_true hi
      have HBD : Aside0 (64 * (fi + i) + 64 ≤ dur.length ∧ 64 * (fi + i) ≤ dur.length) := ⟨by have := HFN.out; omega⟩
      have HPR := Aside0.mk (HP.out.below HS.out HB.out)
      have H64 := Aside0.mk (H64R.out (fi + i) HBD.out.1)
      have HBS : Aside0 (bytesD dur m fi (i + 1) = bytesD dur m fi i ++ readP dur m (fi + i)) := ⟨rfl⟩
      obtain ⟨xr, hxr⟩ : ∃ r_, r_ = readP dur m (fi + i) := ⟨_, rfl⟩
      rw [← hxr] at H64 HBS
      have HXR := Aside0.mk hxr
      clear hxr hi
      obtain ⟨AO, cO, eO⟩ := Kd.R_slice HO.out
      subst eO
      go_wp2_with (first | ((with_reducible refine gate_callee (f := 60) rfl ?_); refine goesL_ (some 31) rfl rfl Try.func60 (by kernel_rfl) rfl #[.pointer (some ⟨gp, 0, none⟩), .int .i64 ((fi + i : Nat) : Int)] rfl (by (try simp only [List.map_toArray, List.map_cons, List.map_nil]); first | done | rfl) ?_; have hrd_ := (read_c wr B s gp dur pend m gy gm vD vP vK (fi + i) HPR.out (Nat.le_trans HS.out HB.out.size) (by have := HBD.out; omega) HDL.out); rw [← HXR.out] at hrd_; refine hrd_.mono ?_; clear hrd_; rintro e w3 ⟨rfl, h64_, hb_⟩; refine ⟨_, rfl, ?_⟩; have HB3 := Aside0.mk (below_step HB.out hb_); have HO3 := Aside0.mk (Kd.R_below HO.out hb_); clear h64_ hb_) | ((with_reducible refine gate_dst (N := 13) rfl ?_); refine Go.Proofs.YtlpjpmfhkmddjaaH.alloc_arr rfl (t := 68) rfl (N := 13) rfl (zs := (Array.replicate 64 (.int .u8 0))) (n := 64) (by kernel_rfl) ?_; intro g13 hg w4 hA hb _; have HA := Aside0.mk hA; have HG := Aside0.mk (show W.heap.size ≤ g13 ∧ w3.heap.size = g13 by (rw [hg]; exact ⟨HB3.out.size, rfl⟩)); have HB4 := Aside0.mk (below_step HB3.out hb); have HO4 := Aside0.mk (Kd.R_below HO3.out hb); clear hA hg hb) | (refine Go.Proofs.YtlpjpmfhkmddjaaH.store_arr (g := g13) (cells := (xr.map (Value.int .u8)).toArray) rfl (t := 68) rfl rfl rfl rfl HA.out (by rw [arr_size H64.out]; kernel_rfl) (by rw [arr_size H64.out]; rfl) (arr_one xr) ?_; intro w5 hA5_ hg5_; have HA5' := Aside0.mk hA5_; have HB5 := Aside0.mk (pw_below_grown HB4.out (some g13) HB4.out.size hg5_ (fun k_ hk_ => by injection hk_ with hk_; rw [← hk_]; exact HG.out.1)); have HO5 := Aside0.mk (Kd.R_mono (Kd.R_grown (Kd.R_types HO4.out HA.out (by decide)) hg5_ (fun k_ hk_ e_ => hk_.2 (by injection e_))) (ok' := fun _ => True) (fun _ _ => trivial)); clear hA5_ hg5_) | ((with_reducible refine gate_builtin (b := .append) (xs := #[.tmp 32, .tmp 33]) rfl ?_); at_builtin; refine Kd.R_append_row (Value.int .u8) (0 : Int) (h1 := fun _ => rfl) (w0 := W) W.heap.size rfl (.tmp 32) (.tmp 33) 22 5 (.int .u8 0) 1 rfl Try.underlying22 infoU8_ rfl (by omega) (.slice AO (bytesD dur m fi i).length cO) (bytesD dur m fi i) xr (some ⟨g13, 0, none⟩) 64 64 (fun _ => True) rfl ?aX (fun _ _ => trivial) (Kd.R_mono HO5.out (fun _ _ => trivial)) (by have h_ := read_arr HA5'.out H64.out; rwa [H64.out] at h_) HB5.out HB5.out.size ?aL ?_; (case aX => rfl); (case aL => rw [bytesD_len H64R.out HBD.out.2]; have := HBD.out; have := HDL.out; omega); intro v6 w6 ho6 hb6 _ _; have HO6 := Aside0.mk ho6; have HB6 := Aside0.mk hb6; clear ho6 hb6))
      go_roundg k2
      case measure => omega
      case rel =>
        refine ⟨_, i + 1, rfl, ⟨?_⟩, ⟨by have := HK.out; omega⟩, ⟨by rw [HBS.out]; exact HO6.out⟩, HB6⟩
        have := HBD.out
        have := HDL.out
        unfold wrap64
        omega
def impl_areaB.f (l0_0 : List Int) (l0_1 : List S82) (a1_0 a1_1 a2 : Int) (a3 : Bool) : Option (List Int) := if 1 ≤ a1_0 ∧ a1_0 ≤ 64 ∧ 1 ≤ a1_1 ∧ a1_1 ≤ 64 ∧ (a2 = 0 ∨ a2 = 1) ∧ (l0_0.length : Int) = 64 * (2 + 2 * (a1_0 + a1_1)) ∧ l0_1.length ≤ 1000000 ∧ l0_1.all (fun p => decide (p.f1.length = 64)) = true then some (bytesD l0_0 (yng l0_1) (areaFirst a1_0 a1_1 a2 a3).toNat (areaLen a1_0 a1_1 a3).toNat) else none
theorem impl_areaB.ok {l0_0 : List Int} {l0_1 : List S82} {a1_0 a1_1 a2 : Int} {a3 : Bool} {r : List Int} (h : impl_areaB.f l0_0 l0_1 a1_0 a1_1 a2 a3 = some r) : AreaOk a1_0 a1_1 a2 l0_0.length ∧ l0_0.length ≤ 100000000 ∧ l0_1.length ≤ 1000000 ∧ l0_1.all (fun p => decide (p.f1.length = 64)) = true ∧ bytesD l0_0 (yng l0_1) (areaFirst a1_0 a1_1 a2 a3).toNat (areaLen a1_0 a1_1 a3).toNat = r := by
  unfold impl_areaB.f at h
  split at h
  · rename_i hh
    exact ⟨⟨⟨hh.1, hh.2.1⟩, ⟨hh.2.2.1, hh.2.2.2.1⟩, hh.2.2.2.2.1, hh.2.2.2.2.2.1⟩, by omega, hh.2.2.2.2.2.2.1, hh.2.2.2.2.2.2.2, Option.some.inj h⟩
  · cases h
/-! ### impl_AreaBytes: function 33 -/
def impl_AreaBytes.f (k : Nat) (l0_0 : List Int) (l0_1 : List (S82)) (a1_0 : Int) (a1_1 : Int) (a2 : Int) (a3 : Bool) : Option (List Int) := (impl_Config_valid.f a1_0 a1_1).bind fun t220 => (if t220 = true then ((impl_ValidDisk.f k l0_0 l0_1).bind fun t221 => (if t221 = true then ((impl_Disk_blocks.f l0_0 l0_1).bind fun t222 => ((impl_Config_blocks.f a1_0 a1_1).bind fun t223 => (if t222 = t223 then (if a2 = 0 then ((impl_areaB.f l0_0 l0_1 a1_0 a1_1 a2 a3).bind fun t224 => (some t224)) else (if a2 = 1 then ((impl_areaB.f l0_0 l0_1 a1_0 a1_1 a2 a3).bind fun t227 => (some t227)) else (some ([] : List Int)))) else (some ([] : List Int))))) else (some ([] : List Int)))) else (some ([] : List Int)))
theorem impl_AreaBytes.mono : ∀ a0 a1 a2 a3 a4 a5 k, LeO (impl_AreaBytes.f k a0 a1 a2 a3 a4 a5) (impl_AreaBytes.f (k + 1) a0 a1 a2 a3 a4 a5) := by
  intro a0 a1 a2 a3 a4 a5 k
  unfold impl_AreaBytes.f
  repeat' first
      | (with_reducible exact impl_ValidDisk.mono _ _ _)
      | (with_reducible exact LeO.refl _)
      | (with_reducible exact LeO.none _)
      | (with_reducible refine LeO.ite ?_ ?_)
      | (with_reducible refine LeO.bind ?_ (fun _ => ?_))
      | exact impl_ValidDisk.mono _ _ _
      | exact LeO.none _
      | refine LeO.ite ?_ ?_
      | refine LeO.bind ?_ (fun _ => ?_)
def impl_AreaBytes.T1 : Bool × List (List Nat × List Nat) := (true, [([], []), ([0], [0]), ([1], [1]), ([2, 1], [2]), ([3], [3]), ([4, 3, 3], [3, 4]), ([5, 3], [3, 5]), ([3, 6], [3, 6]), ([7, 5], [7]), ([8], [8]), ([9, 8, 8], [8, 9]), ([8], [8]), ([11, 10, 8], [8, 11]), ([10, 12, 8], [8, 10, 12]), ([8, 13], [8, 13]), ([14, 12], [14]), ([15], [15]), ([16, 15], [15, 16]), ([17, 15, 15], [15, 17]), ([18], [18]), ([19, 18], [18, 19]), ([18, 20, 15], [15, 18, 20]), ([15, 21], [15, 21])])
def impl_AreaBytes.B1 : List Nat := [0, 1, 3, 7, 15, 31, 63, 127, 255, 511, 1023, 511, 4095, 8191, 16383, 32767, 65535, 131071, 262143, 524287, 1048575, 2097151, 4194303]
theorem impl_AreaBytes.tab1 : rtab .any (opsOf Try.f33 1) = impl_AreaBytes.T1 := by kernel_rfl
theorem impl_AreaBytes.bits1 : waitsOk impl_AreaBytes.T1.2 impl_AreaBytes.B1 = true := by kernel_rfl
set_option maxHeartbeats 8000000 in
set_option maxRecDepth 100000 in
theorem impl_AreaBytes.calls (k : Nat) (A0_0 : Option Addr) (c0_0 : Nat) (l0_0 : List Int) (A0_1 : Option Addr) (c0_1 : Nat) (l0_1 : List (S82)) (a1_0 : Int) (a1_1 : Int) (a2 : Int) (a3 : Bool) (r : List Int) (w : World) (hr0_0 : Kd.C (Kd.int .u8) w A0_0 l0_0.length l0_0) (hc0_0 : l0_0.length ≤ c0_0) (hr0_1 : Kd.C k82 w A0_1 l0_1.length l0_1) (hc0_1 : l0_1.length ≤ c0_1) (h : impl_AreaBytes.f k l0_0 l0_1 a1_0 a1_1 a2 a3 = some r) :
    Calls Try.prog 33 #[.agg #[.slice A0_0 l0_0.length c0_0, .slice A0_1 l0_1.length c0_1], .agg #[.int .i64 a1_0, .int .i64 a1_1], .int .i64 a2, .bool a3] w fun e w' => ∃ v0_ : Value, e = .returned (v0_) ∧ Kd.R (Kd.int .u8) 5 w' w.heap.size (fun _ => True) v0_ r ∧ Below w.heap.size w w' := by
  have hu41 := Try.underlying41
  have hu54 := Try.underlying54
  have HR0_0 := Aside0.mk hr0_0
  have HC0_0 := Aside0.mk hc0_0
  clear hr0_0 hc0_0
  have HR0_1 := Aside0.mk hr0_1
  have HC0_1 := Aside0.mk hc0_1
  clear hr0_1 hc0_1
  have HB := Aside0.mk (Below.refl w.heap.size w)
  have H : ((impl_Config_valid.f a1_0 a1_1).bind fun t220 => (if t220 = true then ((impl_ValidDisk.f k l0_0 l0_1).bind fun t221 => (if t221 = true then ((impl_Disk_blocks.f l0_0 l0_1).bind fun t222 => ((impl_Config_blocks.f a1_0 a1_1).bind fun t223 => (if t222 = t223 then (if a2 = 0 then ((impl_areaB.f l0_0 l0_1 a1_0 a1_1 a2 a3).bind fun t224 => (some t224)) else (if a2 = 1 then ((impl_areaB.f l0_0 l0_1 a1_0 a1_1 a2 a3).bind fun t227 => (some t227)) else (some ([] : List Int)))) else (some ([] : List Int))))) else (some ([] : List Int)))) else (some ([] : List Int)))) = some r := h
  clear h
  replace H := Option.bind_eq_some_iff.mp H
  obtain ⟨t220, A50, H⟩ := H
  replace H : (if t220 = true then ((impl_ValidDisk.f k l0_0 l0_1).bind fun t221 => (if t221 = true then ((impl_Disk_blocks.f l0_0 l0_1).bind fun t222 => ((impl_Config_blocks.f a1_0 a1_1).bind fun t223 => (if t222 = t223 then (if a2 = 0 then ((impl_areaB.f l0_0 l0_1 a1_0 a1_1 a2 a3).bind fun t224 => (some t224)) else (if a2 = 1 then ((impl_areaB.f l0_0 l0_1 a1_0 a1_1 a2 a3).bind fun t227 => (some t227)) else (some ([] : List Int)))) else (some ([] : List Int))))) else (some ([] : List Int)))) else (some ([] : List Int))) = some r := H
  have A5 := Aside0.mk A50
  clear A50
  by_cases c6 : t220 = true
  · subst c6
    have H1 : ((impl_ValidDisk.f k l0_0 l0_1).bind fun t221 => (if t221 = true then ((impl_Disk_blocks.f l0_0 l0_1).bind fun t222 => ((impl_Config_blocks.f a1_0 a1_1).bind fun t223 => (if t222 = t223 then (if a2 = 0 then ((impl_areaB.f l0_0 l0_1 a1_0 a1_1 a2 a3).bind fun t224 => (some t224)) else (if a2 = 1 then ((impl_areaB.f l0_0 l0_1 a1_0 a1_1 a2 a3).bind fun t227 => (some t227)) else (some ([] : List Int)))) else (some ([] : List Int))))) else (some ([] : List Int)))) = some r := by rw [if_pos rfl] at H; exact H
    clear H
    have H := H1
    clear H1
    replace H := Option.bind_eq_some_iff.mp H
    obtain ⟨t221, A70, H⟩ := H
    replace H : (if t221 = true then ((impl_Disk_blocks.f l0_0 l0_1).bind fun t222 => ((impl_Config_blocks.f a1_0 a1_1).bind fun t223 => (if t222 = t223 then (if a2 = 0 then ((impl_areaB.f l0_0 l0_1 a1_0 a1_1 a2 a3).bind fun t224 => (some t224)) else (if a2 = 1 then ((impl_areaB.f l0_0 l0_1 a1_0 a1_1 a2 a3).bind fun t227 => (some t227)) else (some ([] : List Int)))) else (some ([] : List Int))))) else (some ([] : List Int))) = some r := H
    have A7 := Aside0.mk A70
    clear A70
    by_cases c8 : t221 = true
    · subst c8
      have H1 : ((impl_Disk_blocks.f l0_0 l0_1).bind fun t222 => ((impl_Config_blocks.f a1_0 a1_1).bind fun t223 => (if t222 = t223 then (if a2 = 0 then ((impl_areaB.f l0_0 l0_1 a1_0 a1_1 a2 a3).bind fun t224 => (some t224)) else (if a2 = 1 then ((impl_areaB.f l0_0 l0_1 a1_0 a1_1 a2 a3).bind fun t227 => (some t227)) else (some ([] : List Int)))) else (some ([] : List Int))))) = some r := by rw [if_pos rfl] at H; exact H
      clear H
      have H := H1
      clear H1
      replace H := Option.bind_eq_some_iff.mp H
      obtain ⟨t222, A90, H⟩ := H
      replace H : ((impl_Config_blocks.f a1_0 a1_1).bind fun t223 => (if t222 = t223 then (if a2 = 0 then ((impl_areaB.f l0_0 l0_1 a1_0 a1_1 a2 a3).bind fun t224 => (some t224)) else (if a2 = 1 then ((impl_areaB.f l0_0 l0_1 a1_0 a1_1 a2 a3).bind fun t227 => (some t227)) else (some ([] : List Int)))) else (some ([] : List Int)))) = some r := H
      have A9 := Aside0.mk A90
      clear A90
      replace H := Option.bind_eq_some_iff.mp H
      obtain ⟨t223, A100, H⟩ := H
      replace H : (if t222 = t223 then (if a2 = 0 then ((impl_areaB.f l0_0 l0_1 a1_0 a1_1 a2 a3).bind fun t224 => (some t224)) else (if a2 = 1 then ((impl_areaB.f l0_0 l0_1 a1_0 a1_1 a2 a3).bind fun t227 => (some t227)) else (some ([] : List Int)))) else (some ([] : List Int))) = some r := H
      have A10 := Aside0.mk A100
      clear A100
      by_cases c11 : t222 = t223
      · rw [if_pos c11] at H
        have c11b0 : (t222 == t223) = true := beq_iff_eq.mpr c11
        have c11b1 : (t222 != t223) = false := bne_eq_false_iff_eq.mpr c11
        clear c11
        by_cases c12 : a2 = 0
        · rw [if_pos c12] at H
          have c12b0 : (a2 == 0) = true := beq_iff_eq.mpr c12
          have c12b1 : (a2 != 0) = false := bne_eq_false_iff_eq.mpr c12
          clear c12
          replace H := Option.bind_eq_some_iff.mp H
          obtain ⟨t224, A130, H⟩ := H
          replace H : (some t224) = some r := H
          have A13 := Aside0.mk A130
          clear A130
          obtain rfl := Option.some.inj H
          go_enter Try.func33, Try.ntmps33
          try go_wp2_with (first | ((with_reducible refine gate_dst (N := 4) rfl ?_); refine box_event ?hg (N := 4) ?hd (cs := #[.slice A0_0 l0_0.length c0_0, .slice A0_1 l0_1.length c0_1]) (t := 41) ?hr ?_; (case hd => rfl); (case hg => rfl); (case hr => first | (go_simp; done) | (go_simp; rfl)); intro gb218 hg w14 hbox hb; have n0_ := Aside0.mk (below_step (by repeat (first | (with_reducible first | exact HB.out | apply below_alloc | apply pw_below_drewN | apply below_drew1) | exact HB.out)) hb); have n1_ := Aside0.mk (hbox); have n2_ := Aside0.mk ((by rw [hg]; exact (below_size (by repeat (first | (with_reducible first | exact HB.out | apply below_alloc | apply pw_below_drewN | apply below_drew1) | exact HB.out))) : w.heap.size ≤ gb218)); have n3_ := Aside0.mk ((by rw [hg]; exact (below_size (by repeat (first | (with_reducible first | exact HB.out | apply below_alloc | apply pw_below_drewN | apply below_drew1) | exact HB.out))) : w.heap.size ≤ gb218)); clear HB; have HB := n0_; have BK218 := n1_; have GW218 := n2_; have GE218 := n3_; clear n0_ n1_ n2_ n3_; clear hb hbox hg) | ((with_reducible refine gate_dst (N := 5) rfl ?_); refine box_event ?hg (N := 5) ?hd (cs := #[.int .i64 a1_0, .int .i64 a1_1]) (t := 54) ?hr ?_; (case hd => rfl); (case hg => rfl); (case hr => first | (go_simp; done) | (go_simp; rfl)); intro gb219 hg w15 hbox hb; have n0_ := Aside0.mk (blk_below (g := gb218) (o := .cells #[.slice A0_0 l0_0.length c0_0, .slice A0_1 l0_1.length c0_1] 41 (0, 0)) (by (with_reducible repeat (first | refine blk_drewN ?_ _ | refine blk_drew ?_ | refine blk_alloc ?_ _)); exact BK218.out) hb); have n1_ := Aside0.mk (below_step (by repeat (first | (with_reducible first | exact HB.out | apply below_alloc | apply pw_below_drewN | apply below_drew1 | refine below_set ?_ GE218.out) | exact HB.out)) hb); have n2_ := Aside0.mk (hbox); have n3_ := Aside0.mk ((by rw [hg]; exact (below_size (by repeat (first | (with_reducible first | exact HB.out | apply below_alloc | apply pw_below_drewN | apply below_drew1 | refine below_set ?_ GE218.out) | exact HB.out))) : w.heap.size ≤ gb219)); have n4_ := Aside0.mk ((by rw [hg]; exact (below_size (by repeat (first | (with_reducible first | exact HB.out | apply below_alloc | apply pw_below_drewN | apply below_drew1 | refine below_set ?_ GE218.out) | exact HB.out))) : w.heap.size ≤ gb219)); have n5_ := Aside0.mk ((by rw [hg]; exact Nat.ne_of_lt (blk_lt (g := gb218) (o := .cells #[.slice A0_0 l0_0.length c0_0, .slice A0_1 l0_1.length c0_1] 41 (0, 0)) (by (with_reducible repeat (first | refine blk_drewN ?_ _ | refine blk_drew ?_ | refine blk_alloc ?_ _)); exact BK218.out)) : gb218 ≠ gb219)); have n6_ := Aside0.mk ((by rw [hg]; exact Nat.ne_of_gt (blk_lt (g := gb218) (o := .cells #[.slice A0_0 l0_0.length c0_0, .slice A0_1 l0_1.length c0_1] 41 (0, 0)) (by (with_reducible repeat (first | refine blk_drewN ?_ _ | refine blk_drew ?_ | refine blk_alloc ?_ _)); exact BK218.out)) : gb219 ≠ gb218)); clear BK218; clear HB; have BK218 := n0_; have HB := n1_; have BK219 := n2_; have GW219 := n3_; have GE219 := n4_; have NB218_219 := n5_; have NB219_218 := n6_; clear n0_ n1_ n2_ n3_ n4_ n5_ n6_; clear hb hbox hg))
          have n0_ := Aside0.mk (blk_drew BK218.out)
          have n1_ := Aside0.mk (blk_drew BK219.out)
          have n2_ := Aside0.mk (below_drew1 HB.out)
          clear BK218
          clear BK219
          clear HB
          have BK218 := n0_
          have BK219 := n1_
          have HB := n2_
          clear n0_ n1_ n2_
          refine start_ (n := 23) (S := fun w' => w'.cell? ⟨gb219, 0, none⟩ = some (.int .i64 a1_0) ∧ w'.cell? ⟨gb219, 1, none⟩ = some (.int .i64 a1_1) ∧ w'.cell? ⟨gb218, 0, none⟩ = some (.slice A0_0 l0_0.length c0_0) ∧ w'.cell? ⟨gb218, 1, none⟩ = some (.slice A0_1 l0_1.length c0_1)) (ds := []) #[false, false, false, false, false, false, false, false, false, false, false, false, false, false, false, false, false, false, false, false, false, false, false] (by kernel_rfl) rfl rfl ⟨(blk_cell BK219.out 0).trans rfl, (blk_cell BK219.out 1).trans rfl, (blk_cell BK218.out 0).trans rfl, (blk_cell BK218.out 1).trans rfl⟩ (fun hHeld => ?_); refine with_tabW impl_AreaBytes.tab1 impl_AreaBytes.bits1 (fun HT_ HW_ => ?_)
          generalize w15.drew = w16 at BK218 BK219 HB hHeld ⊢
          refine take_ (i := 0) (N := some 9) (v := ?_) (a' := ?_) #[true, false, false, false, false, false, false, false, false, false, false, false, false, false, false, false, false, false, false, false, false, false, false] rfl rfl (take_ofW HT_.out HW_.out (by kernel_rfl)) (fun _ _ _ h => h) (Or.inl ⟨by rfl, ?_⟩) hHeld ?_ ?_
          rotate_left
          · rintro w' ⟨s0, s1, s2, s3⟩
            go_simp
            with_reducible rfl
          rotate_left
          · simp only [Act.put, List.setIfInBounds_toArray, List.set_cons_zero, List.set_cons_succ, i64_w, i32_w]
            rfl
          refine one_ (i := 1) (N := some 10) #[true, true, false, false, false, false, false, false, false, false, false, false, false, false, false, false, false, false, false, false, false, false, false] rfl rfl (one_of HT_.out (by kernel_rfl)) (by decide) (fun K hK => ?_)
          refine goes_ Try.func72 (by kernel_rfl) rfl #[.agg #[.int .i64 a1_0, .int .i64 a1_1]] (by rfl) rfl rfl (by (try simp only [List.map_toArray, List.map_cons, List.map_nil]); first | done | rfl | (simp only [List.length_drop, List.length_take]; rfl)) ?_
          with_reducible refine (impl_Config_valid.calls a1_0 a1_1 true _ A5.out).mono ?_
          rintro e w17 ⟨rfl, hb⟩
          refine ⟨_, rfl, ?_⟩
          have n0_ := Aside0.mk (blk_below (g := gb218) (o := .cells #[.slice A0_0 l0_0.length c0_0, .slice A0_1 l0_1.length c0_1] 41 (0, 0)) (by (with_reducible repeat (first | refine blk_drewN ?_ _ | refine blk_drew ?_ | refine blk_alloc ?_ _)); exact BK218.out) hb)
          have n1_ := Aside0.mk (blk_below (g := gb219) (o := .cells #[.int .i64 a1_0, .int .i64 a1_1] 54 (0, 0)) (by (with_reducible repeat (first | refine blk_drewN ?_ _ | refine blk_drew ?_ | refine blk_alloc ?_ _)); exact BK219.out) hb)
          have n2_ := Aside0.mk (below_step (by repeat (first | (with_reducible first | exact HB.out | apply below_alloc | apply pw_below_drewN | apply below_drew1 | refine below_set ?_ GE218.out | refine below_set ?_ GE219.out) | exact HB.out)) hb)
          clear BK218
          clear BK219
          clear HB
          have BK218 := n0_
          have BK219 := n1_
          have HB := n2_
          clear n0_ n1_ n2_
          (try clear hb)
          (try clear hb2)
          (try clear hk)
          (try clear hi)
          refine hK.out _ _ ⟨(blk_cell BK219.out 0).trans rfl, (blk_cell BK219.out 1).trans rfl, (blk_cell BK218.out 0).trans rfl, (blk_cell BK218.out 1).trans rfl⟩ (fun hHeld => ?_)
          clear hK K
          refine norm_ (a' := ?_) ?_ ?_
          rotate_left
          · show Act.put _ (some 10) _ = _
            simp only [Act.put, List.setIfInBounds_toArray, List.set_cons_zero, List.set_cons_succ, i64_w, i32_w]
            rfl
          refine pure_ (i := 2) (N := some 11) (v := ?_) (a' := ?_) #[true, true, true, false, false, false, false, false, false, false, false, false, false, false, false, false, false, false, false, false, false, false, false] rfl rfl (any_of HT_.out (by kernel_rfl)) (fun _ _ _ h => h) (Or.inl ⟨by rfl, ?_⟩) ?_ ?_
          rotate_left
          · intro w'
            go_simp
            with_reducible rfl
          rotate_left
          · simp only [Act.put, List.setIfInBounds_toArray, List.set_cons_zero, List.set_cons_succ, i64_w, i32_w]
            rfl
          refine pure_ (i := 3) (N := some 12) (v := ?_) (a' := ?_) #[true, true, true, true, false, false, false, false, false, false, false, false, false, false, false, false, false, false, false, false, false, false, false] rfl rfl (any_of HT_.out (by kernel_rfl)) (fun _ _ _ h => h) (Or.inl ⟨by rfl, ?_⟩) ?_ ?_
          rotate_left
          · intro w'
            go_simp
            with_reducible rfl
          rotate_left
          · simp only [Act.put, List.setIfInBounds_toArray, List.set_cons_zero, List.set_cons_succ, i64_w, i32_w]
            rfl
          refine take_ (i := 4) (N := some 13) (v := ?_) (a' := ?_) #[true, true, true, true, true, false, false, false, false, false, false, false, false, false, false, false, false, false, false, false, false, false, false] rfl rfl (take_ofW HT_.out HW_.out (by kernel_rfl)) (fun _ _ _ h => h) (Or.inl ⟨by rfl, ?_⟩) hHeld ?_ ?_
          rotate_left
          · rintro w' ⟨s0, s1, s2, s3⟩
            go_simp
            with_reducible rfl
          rotate_left
          · simp only [Act.put, List.setIfInBounds_toArray, List.set_cons_zero, List.set_cons_succ, i64_w, i32_w]
            rfl
          refine one_ (i := 5) (N := some 14) #[true, true, true, true, true, true, false, false, false, false, false, false, false, false, false, false, false, false, false, false, false, false, false] rfl rfl (one_of HT_.out (by kernel_rfl)) (by decide) (fun K hK => ?_)
          refine goes_ Try.func57 (by kernel_rfl) rfl #[.agg #[.slice A0_0 l0_0.length c0_0, .slice A0_1 l0_1.length c0_1]] (by rfl) rfl rfl (by (try simp only [List.map_toArray, List.map_cons, List.map_nil]); first | done | rfl | (simp only [List.length_drop, List.length_take]; rfl)) ?_
          with_reducible refine (impl_ValidDisk.calls k _ _ l0_0 _ _ l0_1 true _ ?side1 ?side2 ?side3 ?side4 A7.out).mono ?_
          (case side1 => repeat (first | exact (Kd.C_below HR0_0.out HB.out) | (with_reducible refine Kd.C_alloc ?_ _) | (with_reducible refine Kd.C_drewN ?_ _) | (with_reducible refine Kd.C_drew ?_)))
          (case side2 => exact HC0_0.out)
          (case side3 => repeat (first | exact (Kd.C_below HR0_1.out HB.out) | (with_reducible refine Kd.C_alloc ?_ _) | (with_reducible refine Kd.C_drewN ?_ _) | (with_reducible refine Kd.C_drew ?_)))
          (case side4 => exact HC0_1.out)
          rintro e w18 ⟨rfl, hb⟩
          refine ⟨_, rfl, ?_⟩
          have n0_ := Aside0.mk (blk_below (g := gb218) (o := .cells #[.slice A0_0 l0_0.length c0_0, .slice A0_1 l0_1.length c0_1] 41 (0, 0)) (by (with_reducible repeat (first | refine blk_drewN ?_ _ | refine blk_drew ?_ | refine blk_alloc ?_ _)); exact BK218.out) hb)
          have n1_ := Aside0.mk (blk_below (g := gb219) (o := .cells #[.int .i64 a1_0, .int .i64 a1_1] 54 (0, 0)) (by (with_reducible repeat (first | refine blk_drewN ?_ _ | refine blk_drew ?_ | refine blk_alloc ?_ _)); exact BK219.out) hb)
          have n2_ := Aside0.mk (below_step (by repeat (first | (with_reducible first | exact HB.out | apply below_alloc | apply pw_below_drewN | apply below_drew1 | refine below_set ?_ GE218.out | refine below_set ?_ GE219.out) | exact HB.out)) hb)
          clear BK218
          clear BK219
          clear HB
          have BK218 := n0_
          have BK219 := n1_
          have HB := n2_
          clear n0_ n1_ n2_
          (try clear hb)
          (try clear hb2)
          (try clear hk)
          (try clear hi)
          refine hK.out _ _ ⟨(blk_cell BK219.out 0).trans rfl, (blk_cell BK219.out 1).trans rfl, (blk_cell BK218.out 0).trans rfl, (blk_cell BK218.out 1).trans rfl⟩ (fun hHeld => ?_)
          clear hK K
          refine norm_ (a' := ?_) ?_ ?_
          rotate_left
          · show Act.put _ (some 14) _ = _
            simp only [Act.put, List.setIfInBounds_toArray, List.set_cons_zero, List.set_cons_succ, i64_w, i32_w]
            rfl
          refine pure_ (i := 6) (N := some 15) (v := ?_) (a' := ?_) #[true, true, true, true, true, true, true, false, false, false, false, false, false, false, false, false, false, false, false, false, false, false, false] rfl rfl (any_of HT_.out (by kernel_rfl)) (fun _ _ _ h => h) (Or.inl ⟨by rfl, ?_⟩) ?_ ?_
          rotate_left
          · intro w'
            go_simp
            with_reducible rfl
          rotate_left
          · simp only [Act.put, List.setIfInBounds_toArray, List.set_cons_zero, List.set_cons_succ, i64_w, i32_w]
            rfl
          refine pure_ (i := 7) (N := some 16) (v := ?_) (a' := ?_) #[true, true, true, true, true, true, true, true, false, false, false, false, false, false, false, false, false, false, false, false, false, false, false] rfl rfl (any_of HT_.out (by kernel_rfl)) (fun _ _ _ h => h) (Or.inl ⟨by rfl, ?_⟩) ?_ ?_
          rotate_left
          · intro w'
            go_simp
            with_reducible rfl
          rotate_left
          · simp only [Act.put, List.setIfInBounds_toArray, List.set_cons_zero, List.set_cons_succ, i64_w, i32_w]
            rfl
          refine pure_ (i := 8) (N := some 17) (v := ?_) (a' := ?_) #[true, true, true, true, true, true, true, true, true, false, false, false, false, false, false, false, false, false, false, false, false, false, false] rfl rfl (any_of HT_.out (by kernel_rfl)) (fun _ _ _ h => h) (Or.inl ⟨by rfl, ?_⟩) ?_ ?_
          rotate_left
          · intro w'
            go_simp
            with_reducible rfl
          rotate_left
          · simp only [Act.put, List.setIfInBounds_toArray, List.set_cons_zero, List.set_cons_succ, i64_w, i32_w]
            rfl
          refine take_ (i := 9) (N := some 18) (v := ?_) (a' := ?_) #[true, true, true, true, true, true, true, true, true, true, false, false, false, false, false, false, false, false, false, false, false, false, false] rfl rfl (take_ofW HT_.out HW_.out (by kernel_rfl)) (fun _ _ _ h => h) (Or.inl ⟨by rfl, ?_⟩) hHeld ?_ ?_
          rotate_left
          · rintro w' ⟨s0, s1, s2, s3⟩
            go_simp
            with_reducible rfl
          rotate_left
          · simp only [Act.put, List.setIfInBounds_toArray, List.set_cons_zero, List.set_cons_succ, i64_w, i32_w]
            rfl
          refine take_ (i := 11) (N := some 20) (v := ?_) (a' := ?_) #[true, true, true, true, true, true, true, true, true, true, false, true, false, false, false, false, false, false, false, false, false, false, false] rfl rfl (take_ofW HT_.out HW_.out (by kernel_rfl)) (fun _ _ _ h => h) (Or.inl ⟨by rfl, ?_⟩) hHeld ?_ ?_
          rotate_left
          · rintro w' ⟨s0, s1, s2, s3⟩
            go_simp
            with_reducible rfl
          rotate_left
          · simp only [Act.put, List.setIfInBounds_toArray, List.set_cons_zero, List.set_cons_succ, i64_w, i32_w]
            rfl
          refine one_ (i := 10) (N := some 19) #[true, true, true, true, true, true, true, true, true, true, true, true, false, false, false, false, false, false, false, false, false, false, false] rfl rfl (one_of HT_.out (by kernel_rfl)) (by decide) (fun K hK => ?_)
          refine goes_ Try.func58 (by kernel_rfl) rfl #[.agg #[.slice A0_0 l0_0.length c0_0, .slice A0_1 l0_1.length c0_1]] (by rfl) rfl rfl (by (try simp only [List.map_toArray, List.map_cons, List.map_nil]); first | done | rfl | (simp only [List.length_drop, List.length_take]; rfl)) ?_
          with_reducible refine (impl_Disk_blocks.calls _ _ l0_0 _ _ l0_1 t222 _ ?side1 ?side2 ?side3 ?side4 A9.out).mono ?_
          (case side1 => repeat (first | exact (Kd.C_below HR0_0.out HB.out) | (with_reducible refine Kd.C_alloc ?_ _) | (with_reducible refine Kd.C_drewN ?_ _) | (with_reducible refine Kd.C_drew ?_)))
          (case side2 => exact HC0_0.out)
          (case side3 => repeat (first | exact (Kd.C_below HR0_1.out HB.out) | (with_reducible refine Kd.C_alloc ?_ _) | (with_reducible refine Kd.C_drewN ?_ _) | (with_reducible refine Kd.C_drew ?_)))
          (case side4 => exact HC0_1.out)
          rintro e w19 ⟨rfl, hb⟩
          refine ⟨_, rfl, ?_⟩
          have n0_ := Aside0.mk (blk_below (g := gb218) (o := .cells #[.slice A0_0 l0_0.length c0_0, .slice A0_1 l0_1.length c0_1] 41 (0, 0)) (by (with_reducible repeat (first | refine blk_drewN ?_ _ | refine blk_drew ?_ | refine blk_alloc ?_ _)); exact BK218.out) hb)
          have n1_ := Aside0.mk (blk_below (g := gb219) (o := .cells #[.int .i64 a1_0, .int .i64 a1_1] 54 (0, 0)) (by (with_reducible repeat (first | refine blk_drewN ?_ _ | refine blk_drew ?_ | refine blk_alloc ?_ _)); exact BK219.out) hb)
          have n2_ := Aside0.mk (below_step (by repeat (first | (with_reducible first | exact HB.out | apply below_alloc | apply pw_below_drewN | apply below_drew1 | refine below_set ?_ GE218.out | refine below_set ?_ GE219.out) | exact HB.out)) hb)
          clear BK218
          clear BK219
          clear HB
          have BK218 := n0_
          have BK219 := n1_
          have HB := n2_
          clear n0_ n1_ n2_
          (try clear hb)
          (try clear hb2)
          (try clear hk)
          (try clear hi)
          refine hK.out _ _ ⟨(blk_cell BK219.out 0).trans rfl, (blk_cell BK219.out 1).trans rfl, (blk_cell BK218.out 0).trans rfl, (blk_cell BK218.out 1).trans rfl⟩ (fun hHeld => ?_)
          clear hK K
          refine norm_ (a' := ?_) ?_ ?_
          rotate_left
          · show Act.put _ (some 19) _ = _
            simp only [Act.put, List.setIfInBounds_toArray, List.set_cons_zero, List.set_cons_succ, i64_w, i32_w]
            rfl
          refine one_ (i := 12) (N := some 21) #[true, true, true, true, true, true, true, true, true, true, true, true, true, false, false, false, false, false, false, false, false, false, false] rfl rfl (one_of HT_.out (by kernel_rfl)) (by decide) (fun K hK => ?_)
          refine goes_ Try.func73 (by kernel_rfl) rfl #[.agg #[.int .i64 a1_0, .int .i64 a1_1]] (by rfl) rfl rfl (by (try simp only [List.map_toArray, List.map_cons, List.map_nil]); first | done | rfl | (simp only [List.length_drop, List.length_take]; rfl)) ?_
          with_reducible refine (impl_Config_blocks.calls a1_0 a1_1 t223 _ A10.out).mono ?_
          rintro e w20 ⟨rfl, hb⟩
          refine ⟨_, rfl, ?_⟩
          have n0_ := Aside0.mk (blk_below (g := gb218) (o := .cells #[.slice A0_0 l0_0.length c0_0, .slice A0_1 l0_1.length c0_1] 41 (0, 0)) (by (with_reducible repeat (first | refine blk_drewN ?_ _ | refine blk_drew ?_ | refine blk_alloc ?_ _)); exact BK218.out) hb)
          have n1_ := Aside0.mk (blk_below (g := gb219) (o := .cells #[.int .i64 a1_0, .int .i64 a1_1] 54 (0, 0)) (by (with_reducible repeat (first | refine blk_drewN ?_ _ | refine blk_drew ?_ | refine blk_alloc ?_ _)); exact BK219.out) hb)
          have n2_ := Aside0.mk (below_step (by repeat (first | (with_reducible first | exact HB.out | apply below_alloc | apply pw_below_drewN | apply below_drew1 | refine below_set ?_ GE218.out | refine below_set ?_ GE219.out) | exact HB.out)) hb)
          clear BK218
          clear BK219
          clear HB
          have BK218 := n0_
          have BK219 := n1_
          have HB := n2_
          clear n0_ n1_ n2_
          (try clear hb)
          (try clear hb2)
          (try clear hk)
          (try clear hi)
          refine hK.out _ _ ⟨(blk_cell BK219.out 0).trans rfl, (blk_cell BK219.out 1).trans rfl, (blk_cell BK218.out 0).trans rfl, (blk_cell BK218.out 1).trans rfl⟩ (fun hHeld => ?_)
          clear hK K
          refine norm_ (a' := ?_) ?_ ?_
          rotate_left
          · show Act.put _ (some 21) _ = _
            simp only [Act.put, List.setIfInBounds_toArray, List.set_cons_zero, List.set_cons_succ, i64_w, i32_w]
            rfl
          refine pure_ (i := 13) (N := some 22) (v := ?_) (a' := ?_) #[true, true, true, true, true, true, true, true, true, true, true, true, true, true, false, false, false, false, false, false, false, false, false] rfl rfl (any_of HT_.out (by kernel_rfl)) (fun _ _ _ h => h) (Or.inl ⟨by rfl, ?_⟩) ?_ ?_
          rotate_left
          · intro w'
            go_simp
            with_reducible rfl
          rotate_left
          · simp only [Act.put, List.setIfInBounds_toArray, List.set_cons_zero, List.set_cons_succ, i64_w, i32_w]
            rfl
          refine pure_ (i := 14) (N := some 23) (v := ?_) (a' := ?_) #[true, true, true, true, true, true, true, true, true, true, true, true, true, true, true, false, false, false, false, false, false, false, false] rfl rfl (any_of HT_.out (by kernel_rfl)) (fun _ _ _ h => h) (Or.inl ⟨by rfl, ?_⟩) ?_ ?_
          rotate_left
          · intro w'
            go_simp
            with_reducible rfl
          rotate_left
          · simp only [Act.put, List.setIfInBounds_toArray, List.set_cons_zero, List.set_cons_succ, i64_w, i32_w]
            rfl
          refine pure_ (i := 15) (N := some 24) (v := ?_) (a' := ?_) #[true, true, true, true, true, true, true, true, true, true, true, true, true, true, true, true, false, false, false, false, false, false, false] rfl rfl (any_of HT_.out (by kernel_rfl)) (fun _ _ _ h => h) (Or.inl ⟨by rfl, ?_⟩) ?_ ?_
          rotate_left
          · intro w'
            go_simp
            with_reducible rfl
          rotate_left
          · simp only [Act.put, List.setIfInBounds_toArray, List.set_cons_zero, List.set_cons_succ, i64_w, i32_w]
            rfl
          refine pure_ (i := 16) (N := some 25) (v := ?_) (a' := ?_) #[true, true, true, true, true, true, true, true, true, true, true, true, true, true, true, true, true, false, false, false, false, false, false] rfl rfl (any_of HT_.out (by kernel_rfl)) (fun _ _ _ h => h) (Or.inl ⟨by rfl, ?_⟩) ?_ ?_
          rotate_left
          · intro w'
            go_simp
            with_reducible rfl
          rotate_left
          · simp only [Act.put, List.setIfInBounds_toArray, List.set_cons_zero, List.set_cons_succ, i64_w, i32_w]
            rfl
          refine pure_ (i := 17) (N := some 26) (v := ?_) (a' := ?_) #[true, true, true, true, true, true, true, true, true, true, true, true, true, true, true, true, true, true, false, false, false, false, false] rfl rfl (any_of HT_.out (by kernel_rfl)) (fun _ _ _ h => h) (Or.inl ⟨by rfl, ?_⟩) ?_ ?_
          rotate_left
          · intro w'
            go_simp
            with_reducible rfl
          rotate_left
          · simp only [Act.put, List.setIfInBounds_toArray, List.set_cons_zero, List.set_cons_succ, i64_w, i32_w]
            rfl
          refine pure_ (i := 18) (N := some 27) (v := ?_) (a' := ?_) #[true, true, true, true, true, true, true, true, true, true, true, true, true, true, true, true, true, true, true, false, false, false, false] rfl rfl (any_of HT_.out (by kernel_rfl)) (fun _ _ _ h => h) (Or.inl ⟨by rfl, ?_⟩) ?_ ?_
          rotate_left
          · intro w'
            go_simp
            with_reducible rfl
          rotate_left
          · simp only [Act.put, List.setIfInBounds_toArray, List.set_cons_zero, List.set_cons_succ, i64_w, i32_w]
            rfl
          refine pure_ (i := 19) (N := some 28) (v := undef) (a' := ?_) #[true, true, true, true, true, true, true, true, true, true, true, true, true, true, true, true, true, true, true, true, false, false, false] rfl rfl (any_of HT_.out (by kernel_rfl)) (fun _ _ _ h => h) (Or.inr ⟨by rfl, rfl⟩) ?_ ?_
          rotate_left
          · simp only [Act.put, List.setIfInBounds_toArray, List.set_cons_zero, List.set_cons_succ, i64_w, i32_w]
            rfl
          refine pure_ (i := 20) (N := some 29) (v := undef) (a' := ?_) #[true, true, true, true, true, true, true, true, true, true, true, true, true, true, true, true, true, true, true, true, true, false, false] rfl rfl (any_of HT_.out (by kernel_rfl)) (fun _ _ _ h => h) (Or.inr ⟨by rfl, rfl⟩) ?_ ?_
          rotate_left
          · simp only [Act.put, List.setIfInBounds_toArray, List.set_cons_zero, List.set_cons_succ, i64_w, i32_w]
            rfl
          refine pure_ (i := 21) (N := some 30) (v := ?_) (a' := ?_) #[true, true, true, true, true, true, true, true, true, true, true, true, true, true, true, true, true, true, true, true, true, true, false] rfl rfl (any_of HT_.out (by kernel_rfl)) (fun _ _ _ h => h) (Or.inl ⟨by rfl, ?_⟩) ?_ ?_
          rotate_left
          · intro w'
            go_simp
            with_reducible rfl
          rotate_left
          · simp only [Act.put, List.setIfInBounds_toArray, List.set_cons_zero, List.set_cons_succ, i64_w, i32_w]
            rfl
          refine pure_ (i := 22) (N := some 31) (v := ?_) (a' := ?_) #[true, true, true, true, true, true, true, true, true, true, true, true, true, true, true, true, true, true, true, true, true, true, true] rfl rfl (any_of HT_.out (by kernel_rfl)) (fun _ _ _ h => h) (Or.inl ⟨by rfl, ?_⟩) ?_ ?_
          rotate_left
          · intro w'
            go_simp
            with_reducible rfl
          rotate_left
          · simp only [Act.put, List.setIfInBounds_toArray, List.set_cons_zero, List.set_cons_succ, i64_w, i32_w]
            rfl
          refine done_ (done_of HT_.out (by kernel_rfl)) ?_
          try go_wp2
          have n0_ := Aside0.mk (blk_drew BK218.out)
          have n1_ := Aside0.mk (blk_drew BK219.out)
          have n2_ := Aside0.mk (below_drew1 HB.out)
          clear BK218
          clear BK219
          clear HB
          have BK218 := n0_
          have BK219 := n1_
          have HB := n2_
          clear n0_ n1_ n2_
          refine start_ (n := 7) (S := fun w' => w'.cell? ⟨gb218, 0, none⟩ = some (.slice A0_0 l0_0.length c0_0) ∧ w'.cell? ⟨gb218, 1, none⟩ = some (.slice A0_1 l0_1.length c0_1) ∧ w'.cell? ⟨gb219, 0, none⟩ = some (.int .i64 a1_0) ∧ w'.cell? ⟨gb219, 1, none⟩ = some (.int .i64 a1_1)) (ds := []) #[false, false, false, false, false, false, false] (by kernel_rfl) rfl rfl ⟨(blk_cell BK218.out 0).trans rfl, (blk_cell BK218.out 1).trans rfl, (blk_cell BK219.out 0).trans rfl, (blk_cell BK219.out 1).trans rfl⟩ (fun hHeld => ?_)
          generalize w20.drew = w21 at BK218 BK219 HB hHeld ⊢
          refine pure_ (i := 3) (N := some 35) (v := ?_) (a' := ?_) #[false, false, false, true, false, false, false] rfl rfl (by kernel_rfl) (fun _ _ _ h => h) (Or.inl ⟨by rfl, ?_⟩) ?_ ?_
          rotate_left
          · intro w'
            go_simp
            with_reducible rfl
          rotate_left
          · simp only [Act.put, List.setIfInBounds_toArray, List.set_cons_zero, List.set_cons_succ, i64_w, i32_w]
            rfl
          refine pure_ (i := 4) (N := some 36) (v := ?_) (a' := ?_) #[false, false, false, true, true, false, false] rfl rfl (by kernel_rfl) (fun _ _ _ h => h) (Or.inl ⟨by rfl, ?_⟩) ?_ ?_
          rotate_left
          · intro w'
            go_simp
            with_reducible rfl
          rotate_left
          · simp only [Act.put, List.setIfInBounds_toArray, List.set_cons_zero, List.set_cons_succ, i64_w, i32_w]
            rfl
          refine take_ (i := 0) (N := some 32) (v := ?_) (a' := ?_) #[true, false, false, true, true, false, false] rfl rfl (by kernel_rfl) (fun _ _ _ h => h) (Or.inl ⟨by rfl, ?_⟩) hHeld ?_ ?_
          rotate_left
          · rintro w' ⟨s0, s1, s2, s3⟩
            go_simp
            with_reducible rfl
          rotate_left
          · simp only [Act.put, List.setIfInBounds_toArray, List.set_cons_zero, List.set_cons_succ, i64_w, i32_w]
            rfl
          refine take_ (i := 2) (N := some 34) (v := ?_) (a' := ?_) #[true, false, true, true, true, false, false] rfl rfl (by kernel_rfl) (fun _ _ _ h => h) (Or.inl ⟨by rfl, ?_⟩) hHeld ?_ ?_
          rotate_left
          · rintro w' ⟨s0, s1, s2, s3⟩
            go_simp
            with_reducible rfl
          rotate_left
          · simp only [Act.put, List.setIfInBounds_toArray, List.set_cons_zero, List.set_cons_succ, i64_w, i32_w]
            rfl
          refine one_ (i := 1) (N := some 33) #[true, true, true, true, true, false, false] rfl rfl (by kernel_rfl) (by decide) (fun K hK => ?_)
          have HAK_ := Aside0.mk (impl_areaB.ok A13.out)
          refine goes_ Try.func59 (by kernel_rfl) rfl #[.agg #[.slice A0_0 l0_0.length c0_0, .slice A0_1 l0_1.length c0_1]] (by rfl) rfl rfl (by (try simp only [List.map_toArray, List.map_cons, List.map_nil]); first | done | rfl) ?_
          refine (spin_c _ A0_0 c0_0 l0_0 A0_1 c0_1 l0_1 ?side1 HC0_0.out ?side3 HC0_1.out (pend_all HAK_.out.2.2.2.1) HAK_.out.2.1 HAK_.out.2.2.1).mono ?_
          (case side1 => repeat (first | exact (Kd.C_below HR0_0.out HB.out) | (with_reducible refine Kd.C_alloc ?_ _) | (with_reducible refine Kd.C_drewN ?_ _) | (with_reducible refine Kd.C_drew ?_)))
          (case side3 => repeat (first | exact (Kd.C_below HR0_1.out HB.out) | (with_reducible refine Kd.C_alloc ?_ _) | (with_reducible refine Kd.C_drewN ?_ _) | (with_reducible refine Kd.C_drew ?_)))
          rintro e wS_ ⟨gp_, gy_, gm_, vD_, vP_, vK_, rfl, hP_, hb⟩
          have HPS_ := Aside0.mk hP_
          clear hP_
          refine ⟨_, rfl, ?_⟩
          have n1_ := Aside0.mk (blk_below (g := gb218) (o := .cells #[.slice A0_0 l0_0.length c0_0, .slice A0_1 l0_1.length c0_1] 41 (0, 0)) (by (with_reducible repeat (first | refine blk_drewN ?_ _ | refine blk_drew ?_ | refine blk_alloc ?_ _)); exact BK218.out) hb)
          have n2_ := Aside0.mk (blk_below (g := gb219) (o := .cells #[.int .i64 a1_0, .int .i64 a1_1] 54 (0, 0)) (by (with_reducible repeat (first | refine blk_drewN ?_ _ | refine blk_drew ?_ | refine blk_alloc ?_ _)); exact BK219.out) hb)
          have n3_ := Aside0.mk (below_step (by repeat (first | (with_reducible first | exact HB.out | apply below_alloc | apply pw_below_drewN | apply below_drew1 | refine below_set ?_ GE218.out | refine below_set ?_ GE219.out) | exact HB.out)) hb)
          clear BK218
          clear BK219
          clear HB
          have BK218 := n1_
          have BK219 := n2_
          have HB := n3_
          clear n1_ n2_ n3_
          (try clear hb)
          (try clear hb2)
          (try clear hk)
          (try clear hi)
          refine hK.out _ _ ⟨(blk_cell BK218.out 0).trans rfl, (blk_cell BK218.out 1).trans rfl, (blk_cell BK219.out 0).trans rfl, (blk_cell BK219.out 1).trans rfl⟩ (fun hHeld => ?_)
          clear hK K
          refine norm_ (a' := ?_) ?_ ?_
          rotate_left
          · show Act.put _ (some 33) _ = _
            simp only [Act.put, List.setIfInBounds_toArray, List.set_cons_zero, List.set_cons_succ, i64_w, i32_w]
            rfl

          refine one_ (i := 5) (N := some 37) #[true, true, true, true, true, true, false] rfl rfl (by kernel_rfl) (by decide) (fun K hK => ?_)
          refine goes_ Try.func74 (by kernel_rfl) rfl #[.pointer (some ⟨gp_, 0, none⟩), .agg #[.int .i64 a1_0, .int .i64 a1_1], .int .i64 a2, .bool a3] (by rfl) rfl rfl (by (try simp only [List.map_toArray, List.map_cons, List.map_nil]); first | done | rfl) ?_
          refine (bytes_c wS_ _ wS_.heap.size gp_ l0_0 l0_1 (yng l0_1) gy_ gm_ vD_ vP_ vK_ a1_0 a1_1 a2 a3 HPS_.out (Nat.le_refl _) HAK_.out.2.1 HAK_.out.1).mono ?_
          rintro e w22 ⟨v225, rfl, ho0, hb⟩
          rw [HAK_.out.2.2.2.2] at ho0
          refine ⟨_, rfl, ?_⟩
          have n0_ := Aside0.mk (Kd.R_lower ho0 (below_size (by repeat (first | (with_reducible first | exact HB.out | apply below_alloc | apply pw_below_drewN | apply below_drew1 | refine below_set ?_ GE218.out | refine below_set ?_ GE219.out) | exact HB.out))))
          have n1_ := Aside0.mk (blk_below (g := gb218) (o := .cells #[.slice A0_0 l0_0.length c0_0, .slice A0_1 l0_1.length c0_1] 41 (0, 0)) (by (with_reducible repeat (first | refine blk_drewN ?_ _ | refine blk_drew ?_ | refine blk_alloc ?_ _)); exact BK218.out) hb)
          have n2_ := Aside0.mk (blk_below (g := gb219) (o := .cells #[.int .i64 a1_0, .int .i64 a1_1] 54 (0, 0)) (by (with_reducible repeat (first | refine blk_drewN ?_ _ | refine blk_drew ?_ | refine blk_alloc ?_ _)); exact BK219.out) hb)
          have n3_ := Aside0.mk (below_step (by repeat (first | (with_reducible first | exact HB.out | apply below_alloc | apply pw_below_drewN | apply below_drew1 | refine below_set ?_ GE218.out | refine below_set ?_ GE219.out) | exact HB.out)) hb)
          clear BK218
          clear BK219
          clear HB
          have HO226 := n0_
          have BK218 := n1_
          have BK219 := n2_
          have HB := n3_
          clear n0_ n1_ n2_ n3_
          (try clear hb)
          (try clear hb2)
          (try clear hk)
          (try clear hi)
          (try clear ho0)
          refine hK.out _ _ ⟨(blk_cell BK218.out 0).trans rfl, (blk_cell BK218.out 1).trans rfl, (blk_cell BK219.out 0).trans rfl, (blk_cell BK219.out 1).trans rfl⟩ (fun hHeld => ?_)
          clear hK K
          refine norm_ (a' := ?_) ?_ ?_
          rotate_left
          · show Act.put _ (some 37) _ = _
            simp only [Act.put, List.setIfInBounds_toArray, List.set_cons_zero, List.set_cons_succ, i64_w, i32_w]
            rfl
          refine pure_ (i := 6) (N := some 8) (v := ?_) (a' := ?_) #[true, true, true, true, true, true, true] rfl rfl (by kernel_rfl) (fun _ _ _ h => h) (Or.inl ⟨by rfl, ?_⟩) ?_ ?_
          rotate_left
          · intro w'
            go_simp
            with_reducible rfl
          rotate_left
          · simp only [Act.put, List.setIfInBounds_toArray, List.set_cons_zero, List.set_cons_succ, i64_w, i32_w]
            rfl
          refine done_ (by kernel_rfl) ?_
          try go_wp2
          go_ret
          exact ⟨_, by first | rfl | (simp [errW_none, errW_some] <;> rfl) | (simp [*, errW_none, errW_some] <;> rfl), by (with_reducible repeat (first | apply Kd.R_alloc | apply Kd.R_drewN | apply Kd.R_drew)); exact HO226.out, by repeat (first | (with_reducible first | exact HB.out | apply below_alloc | apply pw_below_drewN | apply below_drew1 | refine below_set ?_ GE218.out | refine below_set ?_ GE219.out) | exact HB.out)⟩
        · rw [if_neg c12] at H
          have c12b0 : (a2 == 0) = false := beq_eq_false_iff_ne.mpr c12
          have c12b1 : (a2 != 0) = true := bne_iff_ne.mpr c12
          by_cases c23 : a2 = 1
          · rw [if_pos c23] at H
            have c23b0 : (a2 == 1) = true := beq_iff_eq.mpr c23
            have c23b1 : (a2 != 1) = false := bne_eq_false_iff_eq.mpr c23
            clear c23
            replace H := Option.bind_eq_some_iff.mp H
            obtain ⟨t227, A240, H⟩ := H
            replace H : (some t227) = some r := H
            have A24 := Aside0.mk A240
            clear A240
            obtain rfl := Option.some.inj H
            go_enter Try.func33, Try.ntmps33
            try go_wp2_with (first | ((with_reducible refine gate_dst (N := 4) rfl ?_); refine box_event ?hg (N := 4) ?hd (cs := #[.slice A0_0 l0_0.length c0_0, .slice A0_1 l0_1.length c0_1]) (t := 41) ?hr ?_; (case hd => rfl); (case hg => rfl); (case hr => first | (go_simp; done) | (go_simp; rfl)); intro gb218 hg w25 hbox hb; have n0_ := Aside0.mk (below_step (by repeat (first | (with_reducible first | exact HB.out | apply below_alloc | apply pw_below_drewN | apply below_drew1) | exact HB.out)) hb); have n1_ := Aside0.mk (hbox); have n2_ := Aside0.mk ((by rw [hg]; exact (below_size (by repeat (first | (with_reducible first | exact HB.out | apply below_alloc | apply pw_below_drewN | apply below_drew1) | exact HB.out))) : w.heap.size ≤ gb218)); have n3_ := Aside0.mk ((by rw [hg]; exact (below_size (by repeat (first | (with_reducible first | exact HB.out | apply below_alloc | apply pw_below_drewN | apply below_drew1) | exact HB.out))) : w.heap.size ≤ gb218)); clear HB; have HB := n0_; have BK218 := n1_; have GW218 := n2_; have GE218 := n3_; clear n0_ n1_ n2_ n3_; clear hb hbox hg) | ((with_reducible refine gate_dst (N := 5) rfl ?_); refine box_event ?hg (N := 5) ?hd (cs := #[.int .i64 a1_0, .int .i64 a1_1]) (t := 54) ?hr ?_; (case hd => rfl); (case hg => rfl); (case hr => first | (go_simp; done) | (go_simp; rfl)); intro gb219 hg w26 hbox hb; have n0_ := Aside0.mk (blk_below (g := gb218) (o := .cells #[.slice A0_0 l0_0.length c0_0, .slice A0_1 l0_1.length c0_1] 41 (0, 0)) (by (with_reducible repeat (first | refine blk_drewN ?_ _ | refine blk_drew ?_ | refine blk_alloc ?_ _)); exact BK218.out) hb); have n1_ := Aside0.mk (below_step (by repeat (first | (with_reducible first | exact HB.out | apply below_alloc | apply pw_below_drewN | apply below_drew1 | refine below_set ?_ GE218.out) | exact HB.out)) hb); have n2_ := Aside0.mk (hbox); have n3_ := Aside0.mk ((by rw [hg]; exact (below_size (by repeat (first | (with_reducible first | exact HB.out | apply below_alloc | apply pw_below_drewN | apply below_drew1 | refine below_set ?_ GE218.out) | exact HB.out))) : w.heap.size ≤ gb219)); have n4_ := Aside0.mk ((by rw [hg]; exact (below_size (by repeat (first | (with_reducible first | exact HB.out | apply below_alloc | apply pw_below_drewN | apply below_drew1 | refine below_set ?_ GE218.out) | exact HB.out))) : w.heap.size ≤ gb219)); have n5_ := Aside0.mk ((by rw [hg]; exact Nat.ne_of_lt (blk_lt (g := gb218) (o := .cells #[.slice A0_0 l0_0.length c0_0, .slice A0_1 l0_1.length c0_1] 41 (0, 0)) (by (with_reducible repeat (first | refine blk_drewN ?_ _ | refine blk_drew ?_ | refine blk_alloc ?_ _)); exact BK218.out)) : gb218 ≠ gb219)); have n6_ := Aside0.mk ((by rw [hg]; exact Nat.ne_of_gt (blk_lt (g := gb218) (o := .cells #[.slice A0_0 l0_0.length c0_0, .slice A0_1 l0_1.length c0_1] 41 (0, 0)) (by (with_reducible repeat (first | refine blk_drewN ?_ _ | refine blk_drew ?_ | refine blk_alloc ?_ _)); exact BK218.out)) : gb219 ≠ gb218)); clear BK218; clear HB; have BK218 := n0_; have HB := n1_; have BK219 := n2_; have GW219 := n3_; have GE219 := n4_; have NB218_219 := n5_; have NB219_218 := n6_; clear n0_ n1_ n2_ n3_ n4_ n5_ n6_; clear hb hbox hg))
            have n0_ := Aside0.mk (blk_drew BK218.out)
            have n1_ := Aside0.mk (blk_drew BK219.out)
            have n2_ := Aside0.mk (below_drew1 HB.out)
            clear BK218
            clear BK219
            clear HB
            have BK218 := n0_
            have BK219 := n1_
            have HB := n2_
            clear n0_ n1_ n2_
            refine start_ (n := 23) (S := fun w' => w'.cell? ⟨gb219, 0, none⟩ = some (.int .i64 a1_0) ∧ w'.cell? ⟨gb219, 1, none⟩ = some (.int .i64 a1_1) ∧ w'.cell? ⟨gb218, 0, none⟩ = some (.slice A0_0 l0_0.length c0_0) ∧ w'.cell? ⟨gb218, 1, none⟩ = some (.slice A0_1 l0_1.length c0_1)) (ds := []) #[false, false, false, false, false, false, false, false, false, false, false, false, false, false, false, false, false, false, false, false, false, false, false] (by kernel_rfl) rfl rfl ⟨(blk_cell BK219.out 0).trans rfl, (blk_cell BK219.out 1).trans rfl, (blk_cell BK218.out 0).trans rfl, (blk_cell BK218.out 1).trans rfl⟩ (fun hHeld => ?_); refine with_tabW impl_AreaBytes.tab1 impl_AreaBytes.bits1 (fun HT_ HW_ => ?_)
            generalize w26.drew = w27 at BK218 BK219 HB hHeld ⊢
            refine take_ (i := 0) (N := some 9) (v := ?_) (a' := ?_) #[true, false, false, false, false, false, false, false, false, false, false, false, false, false, false, false, false, false, false, false, false, false, false] rfl rfl (take_ofW HT_.out HW_.out (by kernel_rfl)) (fun _ _ _ h => h) (Or.inl ⟨by rfl, ?_⟩) hHeld ?_ ?_
            rotate_left
            · rintro w' ⟨s0, s1, s2, s3⟩
              go_simp
              with_reducible rfl
            rotate_left
            · simp only [Act.put, List.setIfInBounds_toArray, List.set_cons_zero, List.set_cons_succ, i64_w, i32_w]
              rfl
            refine one_ (i := 1) (N := some 10) #[true, true, false, false, false, false, false, false, false, false, false, false, false, false, false, false, false, false, false, false, false, false, false] rfl rfl (one_of HT_.out (by kernel_rfl)) (by decide) (fun K hK => ?_)
            refine goes_ Try.func72 (by kernel_rfl) rfl #[.agg #[.int .i64 a1_0, .int .i64 a1_1]] (by rfl) rfl rfl (by (try simp only [List.map_toArray, List.map_cons, List.map_nil]); first | done | rfl | (simp only [List.length_drop, List.length_take]; rfl)) ?_
            with_reducible refine (impl_Config_valid.calls a1_0 a1_1 true _ A5.out).mono ?_
            rintro e w28 ⟨rfl, hb⟩
            refine ⟨_, rfl, ?_⟩
            have n0_ := Aside0.mk (blk_below (g := gb218) (o := .cells #[.slice A0_0 l0_0.length c0_0, .slice A0_1 l0_1.length c0_1] 41 (0, 0)) (by (with_reducible repeat (first | refine blk_drewN ?_ _ | refine blk_drew ?_ | refine blk_alloc ?_ _)); exact BK218.out) hb)
            have n1_ := Aside0.mk (blk_below (g := gb219) (o := .cells #[.int .i64 a1_0, .int .i64 a1_1] 54 (0, 0)) (by (with_reducible repeat (first | refine blk_drewN ?_ _ | refine blk_drew ?_ | refine blk_alloc ?_ _)); exact BK219.out) hb)
            have n2_ := Aside0.mk (below_step (by repeat (first | (with_reducible first | exact HB.out | apply below_alloc | apply pw_below_drewN | apply below_drew1 | refine below_set ?_ GE218.out | refine below_set ?_ GE219.out) | exact HB.out)) hb)
            clear BK218
            clear BK219
            clear HB
            have BK218 := n0_
            have BK219 := n1_
            have HB := n2_
            clear n0_ n1_ n2_
            (try clear hb)
            (try clear hb2)
            (try clear hk)
            (try clear hi)
            refine hK.out _ _ ⟨(blk_cell BK219.out 0).trans rfl, (blk_cell BK219.out 1).trans rfl, (blk_cell BK218.out 0).trans rfl, (blk_cell BK218.out 1).trans rfl⟩ (fun hHeld => ?_)
            clear hK K
            refine norm_ (a' := ?_) ?_ ?_
            rotate_left
            · show Act.put _ (some 10) _ = _
              simp only [Act.put, List.setIfInBounds_toArray, List.set_cons_zero, List.set_cons_succ, i64_w, i32_w]
              rfl
            refine pure_ (i := 2) (N := some 11) (v := ?_) (a' := ?_) #[true, true, true, false, false, false, false, false, false, false, false, false, false, false, false, false, false, false, false, false, false, false, false] rfl rfl (any_of HT_.out (by kernel_rfl)) (fun _ _ _ h => h) (Or.inl ⟨by rfl, ?_⟩) ?_ ?_
            rotate_left
            · intro w'
              go_simp
              with_reducible rfl
            rotate_left
            · simp only [Act.put, List.setIfInBounds_toArray, List.set_cons_zero, List.set_cons_succ, i64_w, i32_w]
              rfl
            refine pure_ (i := 3) (N := some 12) (v := ?_) (a' := ?_) #[true, true, true, true, false, false, false, false, false, false, false, false, false, false, false, false, false, false, false, false, false, false, false] rfl rfl (any_of HT_.out (by kernel_rfl)) (fun _ _ _ h => h) (Or.inl ⟨by rfl, ?_⟩) ?_ ?_
            rotate_left
            · intro w'
              go_simp
              with_reducible rfl
            rotate_left
            · simp only [Act.put, List.setIfInBounds_toArray, List.set_cons_zero, List.set_cons_succ, i64_w, i32_w]
              rfl
            refine take_ (i := 4) (N := some 13) (v := ?_) (a' := ?_) #[true, true, true, true, true, false, false, false, false, false, false, false, false, false, false, false, false, false, false, false, false, false, false] rfl rfl (take_ofW HT_.out HW_.out (by kernel_rfl)) (fun _ _ _ h => h) (Or.inl ⟨by rfl, ?_⟩) hHeld ?_ ?_
            rotate_left
            · rintro w' ⟨s0, s1, s2, s3⟩
              go_simp
              with_reducible rfl
            rotate_left
            · simp only [Act.put, List.setIfInBounds_toArray, List.set_cons_zero, List.set_cons_succ, i64_w, i32_w]
              rfl
            refine one_ (i := 5) (N := some 14) #[true, true, true, true, true, true, false, false, false, false, false, false, false, false, false, false, false, false, false, false, false, false, false] rfl rfl (one_of HT_.out (by kernel_rfl)) (by decide) (fun K hK => ?_)
            refine goes_ Try.func57 (by kernel_rfl) rfl #[.agg #[.slice A0_0 l0_0.length c0_0, .slice A0_1 l0_1.length c0_1]] (by rfl) rfl rfl (by (try simp only [List.map_toArray, List.map_cons, List.map_nil]); first | done | rfl | (simp only [List.length_drop, List.length_take]; rfl)) ?_
            with_reducible refine (impl_ValidDisk.calls k _ _ l0_0 _ _ l0_1 true _ ?side1 ?side2 ?side3 ?side4 A7.out).mono ?_
            (case side1 => repeat (first | exact (Kd.C_below HR0_0.out HB.out) | (with_reducible refine Kd.C_alloc ?_ _) | (with_reducible refine Kd.C_drewN ?_ _) | (with_reducible refine Kd.C_drew ?_)))
            (case side2 => exact HC0_0.out)
            (case side3 => repeat (first | exact (Kd.C_below HR0_1.out HB.out) | (with_reducible refine Kd.C_alloc ?_ _) | (with_reducible refine Kd.C_drewN ?_ _) | (with_reducible refine Kd.C_drew ?_)))
            (case side4 => exact HC0_1.out)
            rintro e w29 ⟨rfl, hb⟩
            refine ⟨_, rfl, ?_⟩
            have n0_ := Aside0.mk (blk_below (g := gb218) (o := .cells #[.slice A0_0 l0_0.length c0_0, .slice A0_1 l0_1.length c0_1] 41 (0, 0)) (by (with_reducible repeat (first | refine blk_drewN ?_ _ | refine blk_drew ?_ | refine blk_alloc ?_ _)); exact BK218.out) hb)
            have n1_ := Aside0.mk (blk_below (g := gb219) (o := .cells #[.int .i64 a1_0, .int .i64 a1_1] 54 (0, 0)) (by (with_reducible repeat (first | refine blk_drewN ?_ _ | refine blk_drew ?_ | refine blk_alloc ?_ _)); exact BK219.out) hb)
            have n2_ := Aside0.mk (below_step (by repeat (first | (with_reducible first | exact HB.out | apply below_alloc | apply pw_below_drewN | apply below_drew1 | refine below_set ?_ GE218.out | refine below_set ?_ GE219.out) | exact HB.out)) hb)
            clear BK218
            clear BK219
            clear HB
            have BK218 := n0_
            have BK219 := n1_
            have HB := n2_
            clear n0_ n1_ n2_
            (try clear hb)
            (try clear hb2)
            (try clear hk)
            (try clear hi)
            refine hK.out _ _ ⟨(blk_cell BK219.out 0).trans rfl, (blk_cell BK219.out 1).trans rfl, (blk_cell BK218.out 0).trans rfl, (blk_cell BK218.out 1).trans rfl⟩ (fun hHeld => ?_)
            clear hK K
            refine norm_ (a' := ?_) ?_ ?_
            rotate_left
            · show Act.put _ (some 14) _ = _
              simp only [Act.put, List.setIfInBounds_toArray, List.set_cons_zero, List.set_cons_succ, i64_w, i32_w]
              rfl
            refine pure_ (i := 6) (N := some 15) (v := ?_) (a' := ?_) #[true, true, true, true, true, true, true, false, false, false, false, false, false, false, false, false, false, false, false, false, false, false, false] rfl rfl (any_of HT_.out (by kernel_rfl)) (fun _ _ _ h => h) (Or.inl ⟨by rfl, ?_⟩) ?_ ?_
            rotate_left
            · intro w'
              go_simp
              with_reducible rfl
            rotate_left
            · simp only [Act.put, List.setIfInBounds_toArray, List.set_cons_zero, List.set_cons_succ, i64_w, i32_w]
              rfl
            refine pure_ (i := 7) (N := some 16) (v := ?_) (a' := ?_) #[true, true, true, true, true, true, true, true, false, false, false, false, false, false, false, false, false, false, false, false, false, false, false] rfl rfl (any_of HT_.out (by kernel_rfl)) (fun _ _ _ h => h) (Or.inl ⟨by rfl, ?_⟩) ?_ ?_
            rotate_left
            · intro w'
              go_simp
              with_reducible rfl
            rotate_left
            · simp only [Act.put, List.setIfInBounds_toArray, List.set_cons_zero, List.set_cons_succ, i64_w, i32_w]
              rfl
            refine pure_ (i := 8) (N := some 17) (v := ?_) (a' := ?_) #[true, true, true, true, true, true, true, true, true, false, false, false, false, false, false, false, false, false, false, false, false, false, false] rfl rfl (any_of HT_.out (by kernel_rfl)) (fun _ _ _ h => h) (Or.inl ⟨by rfl, ?_⟩) ?_ ?_
            rotate_left
            · intro w'
              go_simp
              with_reducible rfl
            rotate_left
            · simp only [Act.put, List.setIfInBounds_toArray, List.set_cons_zero, List.set_cons_succ, i64_w, i32_w]
              rfl
            refine take_ (i := 9) (N := some 18) (v := ?_) (a' := ?_) #[true, true, true, true, true, true, true, true, true, true, false, false, false, false, false, false, false, false, false, false, false, false, false] rfl rfl (take_ofW HT_.out HW_.out (by kernel_rfl)) (fun _ _ _ h => h) (Or.inl ⟨by rfl, ?_⟩) hHeld ?_ ?_
            rotate_left
            · rintro w' ⟨s0, s1, s2, s3⟩
              go_simp
              with_reducible rfl
            rotate_left
            · simp only [Act.put, List.setIfInBounds_toArray, List.set_cons_zero, List.set_cons_succ, i64_w, i32_w]
              rfl
            refine take_ (i := 11) (N := some 20) (v := ?_) (a' := ?_) #[true, true, true, true, true, true, true, true, true, true, false, true, false, false, false, false, false, false, false, false, false, false, false] rfl rfl (take_ofW HT_.out HW_.out (by kernel_rfl)) (fun _ _ _ h => h) (Or.inl ⟨by rfl, ?_⟩) hHeld ?_ ?_
            rotate_left
            · rintro w' ⟨s0, s1, s2, s3⟩
              go_simp
              with_reducible rfl
            rotate_left
            · simp only [Act.put, List.setIfInBounds_toArray, List.set_cons_zero, List.set_cons_succ, i64_w, i32_w]
              rfl
            refine one_ (i := 10) (N := some 19) #[true, true, true, true, true, true, true, true, true, true, true, true, false, false, false, false, false, false, false, false, false, false, false] rfl rfl (one_of HT_.out (by kernel_rfl)) (by decide) (fun K hK => ?_)
            refine goes_ Try.func58 (by kernel_rfl) rfl #[.agg #[.slice A0_0 l0_0.length c0_0, .slice A0_1 l0_1.length c0_1]] (by rfl) rfl rfl (by (try simp only [List.map_toArray, List.map_cons, List.map_nil]); first | done | rfl | (simp only [List.length_drop, List.length_take]; rfl)) ?_
            with_reducible refine (impl_Disk_blocks.calls _ _ l0_0 _ _ l0_1 t222 _ ?side1 ?side2 ?side3 ?side4 A9.out).mono ?_
            (case side1 => repeat (first | exact (Kd.C_below HR0_0.out HB.out) | (with_reducible refine Kd.C_alloc ?_ _) | (with_reducible refine Kd.C_drewN ?_ _) | (with_reducible refine Kd.C_drew ?_)))
            (case side2 => exact HC0_0.out)
            (case side3 => repeat (first | exact (Kd.C_below HR0_1.out HB.out) | (with_reducible refine Kd.C_alloc ?_ _) | (with_reducible refine Kd.C_drewN ?_ _) | (with_reducible refine Kd.C_drew ?_)))
            (case side4 => exact HC0_1.out)
            rintro e w30 ⟨rfl, hb⟩
            refine ⟨_, rfl, ?_⟩
            have n0_ := Aside0.mk (blk_below (g := gb218) (o := .cells #[.slice A0_0 l0_0.length c0_0, .slice A0_1 l0_1.length c0_1] 41 (0, 0)) (by (with_reducible repeat (first | refine blk_drewN ?_ _ | refine blk_drew ?_ | refine blk_alloc ?_ _)); exact BK218.out) hb)
            have n1_ := Aside0.mk (blk_below (g := gb219) (o := .cells #[.int .i64 a1_0, .int .i64 a1_1] 54 (0, 0)) (by (with_reducible repeat (first | refine blk_drewN ?_ _ | refine blk_drew ?_ | refine blk_alloc ?_ _)); exact BK219.out) hb)
            have n2_ := Aside0.mk (below_step (by repeat (first | (with_reducible first | exact HB.out | apply below_alloc | apply pw_below_drewN | apply below_drew1 | refine below_set ?_ GE218.out | refine below_set ?_ GE219.out) | exact HB.out)) hb)
            clear BK218
            clear BK219
            clear HB
            have BK218 := n0_
            have BK219 := n1_
            have HB := n2_
            clear n0_ n1_ n2_
            (try clear hb)
            (try clear hb2)
            (try clear hk)
            (try clear hi)
            refine hK.out _ _ ⟨(blk_cell BK219.out 0).trans rfl, (blk_cell BK219.out 1).trans rfl, (blk_cell BK218.out 0).trans rfl, (blk_cell BK218.out 1).trans rfl⟩ (fun hHeld => ?_)
            clear hK K
            refine norm_ (a' := ?_) ?_ ?_
            rotate_left
            · show Act.put _ (some 19) _ = _
              simp only [Act.put, List.setIfInBounds_toArray, List.set_cons_zero, List.set_cons_succ, i64_w, i32_w]
              rfl
            refine one_ (i := 12) (N := some 21) #[true, true, true, true, true, true, true, true, true, true, true, true, true, false, false, false, false, false, false, false, false, false, false] rfl rfl (one_of HT_.out (by kernel_rfl)) (by decide) (fun K hK => ?_)
            refine goes_ Try.func73 (by kernel_rfl) rfl #[.agg #[.int .i64 a1_0, .int .i64 a1_1]] (by rfl) rfl rfl (by (try simp only [List.map_toArray, List.map_cons, List.map_nil]); first | done | rfl | (simp only [List.length_drop, List.length_take]; rfl)) ?_
            with_reducible refine (impl_Config_blocks.calls a1_0 a1_1 t223 _ A10.out).mono ?_
            rintro e w31 ⟨rfl, hb⟩
            refine ⟨_, rfl, ?_⟩
            have n0_ := Aside0.mk (blk_below (g := gb218) (o := .cells #[.slice A0_0 l0_0.length c0_0, .slice A0_1 l0_1.length c0_1] 41 (0, 0)) (by (with_reducible repeat (first | refine blk_drewN ?_ _ | refine blk_drew ?_ | refine blk_alloc ?_ _)); exact BK218.out) hb)
            have n1_ := Aside0.mk (blk_below (g := gb219) (o := .cells #[.int .i64 a1_0, .int .i64 a1_1] 54 (0, 0)) (by (with_reducible repeat (first | refine blk_drewN ?_ _ | refine blk_drew ?_ | refine blk_alloc ?_ _)); exact BK219.out) hb)
            have n2_ := Aside0.mk (below_step (by repeat (first | (with_reducible first | exact HB.out | apply below_alloc | apply pw_below_drewN | apply below_drew1 | refine below_set ?_ GE218.out | refine below_set ?_ GE219.out) | exact HB.out)) hb)
            clear BK218
            clear BK219
            clear HB
            have BK218 := n0_
            have BK219 := n1_
            have HB := n2_
            clear n0_ n1_ n2_
            (try clear hb)
            (try clear hb2)
            (try clear hk)
            (try clear hi)
            refine hK.out _ _ ⟨(blk_cell BK219.out 0).trans rfl, (blk_cell BK219.out 1).trans rfl, (blk_cell BK218.out 0).trans rfl, (blk_cell BK218.out 1).trans rfl⟩ (fun hHeld => ?_)
            clear hK K
            refine norm_ (a' := ?_) ?_ ?_
            rotate_left
            · show Act.put _ (some 21) _ = _
              simp only [Act.put, List.setIfInBounds_toArray, List.set_cons_zero, List.set_cons_succ, i64_w, i32_w]
              rfl
            refine pure_ (i := 13) (N := some 22) (v := ?_) (a' := ?_) #[true, true, true, true, true, true, true, true, true, true, true, true, true, true, false, false, false, false, false, false, false, false, false] rfl rfl (any_of HT_.out (by kernel_rfl)) (fun _ _ _ h => h) (Or.inl ⟨by rfl, ?_⟩) ?_ ?_
            rotate_left
            · intro w'
              go_simp
              with_reducible rfl
            rotate_left
            · simp only [Act.put, List.setIfInBounds_toArray, List.set_cons_zero, List.set_cons_succ, i64_w, i32_w]
              rfl
            refine pure_ (i := 14) (N := some 23) (v := ?_) (a' := ?_) #[true, true, true, true, true, true, true, true, true, true, true, true, true, true, true, false, false, false, false, false, false, false, false] rfl rfl (any_of HT_.out (by kernel_rfl)) (fun _ _ _ h => h) (Or.inl ⟨by rfl, ?_⟩) ?_ ?_
            rotate_left
            · intro w'
              go_simp
              with_reducible rfl
            rotate_left
            · simp only [Act.put, List.setIfInBounds_toArray, List.set_cons_zero, List.set_cons_succ, i64_w, i32_w]
              rfl
            refine pure_ (i := 15) (N := some 24) (v := ?_) (a' := ?_) #[true, true, true, true, true, true, true, true, true, true, true, true, true, true, true, true, false, false, false, false, false, false, false] rfl rfl (any_of HT_.out (by kernel_rfl)) (fun _ _ _ h => h) (Or.inl ⟨by rfl, ?_⟩) ?_ ?_
            rotate_left
            · intro w'
              go_simp
              with_reducible rfl
            rotate_left
            · simp only [Act.put, List.setIfInBounds_toArray, List.set_cons_zero, List.set_cons_succ, i64_w, i32_w]
              rfl
            refine pure_ (i := 16) (N := some 25) (v := ?_) (a' := ?_) #[true, true, true, true, true, true, true, true, true, true, true, true, true, true, true, true, true, false, false, false, false, false, false] rfl rfl (any_of HT_.out (by kernel_rfl)) (fun _ _ _ h => h) (Or.inl ⟨by rfl, ?_⟩) ?_ ?_
            rotate_left
            · intro w'
              go_simp
              with_reducible rfl
            rotate_left
            · simp only [Act.put, List.setIfInBounds_toArray, List.set_cons_zero, List.set_cons_succ, i64_w, i32_w]
              rfl
            refine pure_ (i := 17) (N := some 26) (v := ?_) (a' := ?_) #[true, true, true, true, true, true, true, true, true, true, true, true, true, true, true, true, true, true, false, false, false, false, false] rfl rfl (any_of HT_.out (by kernel_rfl)) (fun _ _ _ h => h) (Or.inl ⟨by rfl, ?_⟩) ?_ ?_
            rotate_left
            · intro w'
              go_simp
              with_reducible rfl
            rotate_left
            · simp only [Act.put, List.setIfInBounds_toArray, List.set_cons_zero, List.set_cons_succ, i64_w, i32_w]
              rfl
            refine pure_ (i := 18) (N := some 27) (v := ?_) (a' := ?_) #[true, true, true, true, true, true, true, true, true, true, true, true, true, true, true, true, true, true, true, false, false, false, false] rfl rfl (any_of HT_.out (by kernel_rfl)) (fun _ _ _ h => h) (Or.inl ⟨by rfl, ?_⟩) ?_ ?_
            rotate_left
            · intro w'
              go_simp
              with_reducible rfl
            rotate_left
            · simp only [Act.put, List.setIfInBounds_toArray, List.set_cons_zero, List.set_cons_succ, i64_w, i32_w]
              rfl
            refine pure_ (i := 19) (N := some 28) (v := ?_) (a' := ?_) #[true, true, true, true, true, true, true, true, true, true, true, true, true, true, true, true, true, true, true, true, false, false, false] rfl rfl (any_of HT_.out (by kernel_rfl)) (fun _ _ _ h => h) (Or.inl ⟨by rfl, ?_⟩) ?_ ?_
            rotate_left
            · intro w'
              go_simp
              with_reducible rfl
            rotate_left
            · simp only [Act.put, List.setIfInBounds_toArray, List.set_cons_zero, List.set_cons_succ, i64_w, i32_w]
              rfl
            refine pure_ (i := 20) (N := some 29) (v := ?_) (a' := ?_) #[true, true, true, true, true, true, true, true, true, true, true, true, true, true, true, true, true, true, true, true, true, false, false] rfl rfl (any_of HT_.out (by kernel_rfl)) (fun _ _ _ h => h) (Or.inl ⟨by rfl, ?_⟩) ?_ ?_
            rotate_left
            · intro w'
              go_simp
              with_reducible rfl
            rotate_left
            · simp only [Act.put, List.setIfInBounds_toArray, List.set_cons_zero, List.set_cons_succ, i64_w, i32_w]
              rfl
            refine pure_ (i := 21) (N := some 30) (v := ?_) (a' := ?_) #[true, true, true, true, true, true, true, true, true, true, true, true, true, true, true, true, true, true, true, true, true, true, false] rfl rfl (any_of HT_.out (by kernel_rfl)) (fun _ _ _ h => h) (Or.inl ⟨by rfl, ?_⟩) ?_ ?_
            rotate_left
            · intro w'
              go_simp
              with_reducible rfl
            rotate_left
            · simp only [Act.put, List.setIfInBounds_toArray, List.set_cons_zero, List.set_cons_succ, i64_w, i32_w]
              rfl
            refine pure_ (i := 22) (N := some 31) (v := ?_) (a' := ?_) #[true, true, true, true, true, true, true, true, true, true, true, true, true, true, true, true, true, true, true, true, true, true, true] rfl rfl (any_of HT_.out (by kernel_rfl)) (fun _ _ _ h => h) (Or.inl ⟨by rfl, ?_⟩) ?_ ?_
            rotate_left
            · intro w'
              go_simp
              with_reducible rfl
            rotate_left
            · simp only [Act.put, List.setIfInBounds_toArray, List.set_cons_zero, List.set_cons_succ, i64_w, i32_w]
              rfl
            refine done_ (done_of HT_.out (by kernel_rfl)) ?_
            try go_wp2
            have n0_ := Aside0.mk (blk_drew BK218.out)
            have n1_ := Aside0.mk (blk_drew BK219.out)
            have n2_ := Aside0.mk (below_drew1 HB.out)
            clear BK218
            clear BK219
            clear HB
            have BK218 := n0_
            have BK219 := n1_
            have HB := n2_
            clear n0_ n1_ n2_
            refine start_ (n := 7) (S := fun w' => w'.cell? ⟨gb218, 0, none⟩ = some (.slice A0_0 l0_0.length c0_0) ∧ w'.cell? ⟨gb218, 1, none⟩ = some (.slice A0_1 l0_1.length c0_1) ∧ w'.cell? ⟨gb219, 0, none⟩ = some (.int .i64 a1_0) ∧ w'.cell? ⟨gb219, 1, none⟩ = some (.int .i64 a1_1)) (ds := []) #[false, false, false, false, false, false, false] (by kernel_rfl) rfl rfl ⟨(blk_cell BK218.out 0).trans rfl, (blk_cell BK218.out 1).trans rfl, (blk_cell BK219.out 0).trans rfl, (blk_cell BK219.out 1).trans rfl⟩ (fun hHeld => ?_)
            generalize w31.drew = w32 at BK218 BK219 HB hHeld ⊢
            refine pure_ (i := 3) (N := some 35) (v := ?_) (a' := ?_) #[false, false, false, true, false, false, false] rfl rfl (by kernel_rfl) (fun _ _ _ h => h) (Or.inl ⟨by rfl, ?_⟩) ?_ ?_
            rotate_left
            · intro w'
              go_simp
              with_reducible rfl
            rotate_left
            · simp only [Act.put, List.setIfInBounds_toArray, List.set_cons_zero, List.set_cons_succ, i64_w, i32_w]
              rfl
            refine pure_ (i := 4) (N := some 36) (v := ?_) (a' := ?_) #[false, false, false, true, true, false, false] rfl rfl (by kernel_rfl) (fun _ _ _ h => h) (Or.inl ⟨by rfl, ?_⟩) ?_ ?_
            rotate_left
            · intro w'
              go_simp
              with_reducible rfl
            rotate_left
            · simp only [Act.put, List.setIfInBounds_toArray, List.set_cons_zero, List.set_cons_succ, i64_w, i32_w]
              rfl
            refine take_ (i := 0) (N := some 32) (v := ?_) (a' := ?_) #[true, false, false, true, true, false, false] rfl rfl (by kernel_rfl) (fun _ _ _ h => h) (Or.inl ⟨by rfl, ?_⟩) hHeld ?_ ?_
            rotate_left
            · rintro w' ⟨s0, s1, s2, s3⟩
              go_simp
              with_reducible rfl
            rotate_left
            · simp only [Act.put, List.setIfInBounds_toArray, List.set_cons_zero, List.set_cons_succ, i64_w, i32_w]
              rfl
            refine take_ (i := 2) (N := some 34) (v := ?_) (a' := ?_) #[true, false, true, true, true, false, false] rfl rfl (by kernel_rfl) (fun _ _ _ h => h) (Or.inl ⟨by rfl, ?_⟩) hHeld ?_ ?_
            rotate_left
            · rintro w' ⟨s0, s1, s2, s3⟩
              go_simp
              with_reducible rfl
            rotate_left
            · simp only [Act.put, List.setIfInBounds_toArray, List.set_cons_zero, List.set_cons_succ, i64_w, i32_w]
              rfl
            refine one_ (i := 1) (N := some 33) #[true, true, true, true, true, false, false] rfl rfl (by kernel_rfl) (by decide) (fun K hK => ?_)
            have HAK_ := Aside0.mk (impl_areaB.ok A24.out)
            refine goes_ Try.func59 (by kernel_rfl) rfl #[.agg #[.slice A0_0 l0_0.length c0_0, .slice A0_1 l0_1.length c0_1]] (by rfl) rfl rfl (by (try simp only [List.map_toArray, List.map_cons, List.map_nil]); first | done | rfl) ?_
            refine (spin_c _ A0_0 c0_0 l0_0 A0_1 c0_1 l0_1 ?side1 HC0_0.out ?side3 HC0_1.out (pend_all HAK_.out.2.2.2.1) HAK_.out.2.1 HAK_.out.2.2.1).mono ?_
            (case side1 => repeat (first | exact (Kd.C_below HR0_0.out HB.out) | (with_reducible refine Kd.C_alloc ?_ _) | (with_reducible refine Kd.C_drewN ?_ _) | (with_reducible refine Kd.C_drew ?_)))
            (case side3 => repeat (first | exact (Kd.C_below HR0_1.out HB.out) | (with_reducible refine Kd.C_alloc ?_ _) | (with_reducible refine Kd.C_drewN ?_ _) | (with_reducible refine Kd.C_drew ?_)))
            rintro e wS_ ⟨gp_, gy_, gm_, vD_, vP_, vK_, rfl, hP_, hb⟩
            have HPS_ := Aside0.mk hP_
            clear hP_
            refine ⟨_, rfl, ?_⟩
            have n1_ := Aside0.mk (blk_below (g := gb218) (o := .cells #[.slice A0_0 l0_0.length c0_0, .slice A0_1 l0_1.length c0_1] 41 (0, 0)) (by (with_reducible repeat (first | refine blk_drewN ?_ _ | refine blk_drew ?_ | refine blk_alloc ?_ _)); exact BK218.out) hb)
            have n2_ := Aside0.mk (blk_below (g := gb219) (o := .cells #[.int .i64 a1_0, .int .i64 a1_1] 54 (0, 0)) (by (with_reducible repeat (first | refine blk_drewN ?_ _ | refine blk_drew ?_ | refine blk_alloc ?_ _)); exact BK219.out) hb)
            have n3_ := Aside0.mk (below_step (by repeat (first | (with_reducible first | exact HB.out | apply below_alloc | apply pw_below_drewN | apply below_drew1 | refine below_set ?_ GE218.out | refine below_set ?_ GE219.out) | exact HB.out)) hb)
            clear BK218
            clear BK219
            clear HB
            have BK218 := n1_
            have BK219 := n2_
            have HB := n3_
            clear n1_ n2_ n3_
            (try clear hb)
            (try clear hb2)
            (try clear hk)
            (try clear hi)
            refine hK.out _ _ ⟨(blk_cell BK218.out 0).trans rfl, (blk_cell BK218.out 1).trans rfl, (blk_cell BK219.out 0).trans rfl, (blk_cell BK219.out 1).trans rfl⟩ (fun hHeld => ?_)
            clear hK K
            refine norm_ (a' := ?_) ?_ ?_
            rotate_left
            · show Act.put _ (some 33) _ = _
              simp only [Act.put, List.setIfInBounds_toArray, List.set_cons_zero, List.set_cons_succ, i64_w, i32_w]
              rfl

            refine one_ (i := 5) (N := some 37) #[true, true, true, true, true, true, false] rfl rfl (by kernel_rfl) (by decide) (fun K hK => ?_)
            refine goes_ Try.func74 (by kernel_rfl) rfl #[.pointer (some ⟨gp_, 0, none⟩), .agg #[.int .i64 a1_0, .int .i64 a1_1], .int .i64 a2, .bool a3] (by rfl) rfl rfl (by (try simp only [List.map_toArray, List.map_cons, List.map_nil]); first | done | rfl) ?_
            refine (bytes_c wS_ _ wS_.heap.size gp_ l0_0 l0_1 (yng l0_1) gy_ gm_ vD_ vP_ vK_ a1_0 a1_1 a2 a3 HPS_.out (Nat.le_refl _) HAK_.out.2.1 HAK_.out.1).mono ?_
            rintro e w33 ⟨v228, rfl, ho0, hb⟩
            rw [HAK_.out.2.2.2.2] at ho0
            refine ⟨_, rfl, ?_⟩
            have n0_ := Aside0.mk (Kd.R_lower ho0 (below_size (by repeat (first | (with_reducible first | exact HB.out | apply below_alloc | apply pw_below_drewN | apply below_drew1 | refine below_set ?_ GE218.out | refine below_set ?_ GE219.out) | exact HB.out))))
            have n1_ := Aside0.mk (blk_below (g := gb218) (o := .cells #[.slice A0_0 l0_0.length c0_0, .slice A0_1 l0_1.length c0_1] 41 (0, 0)) (by (with_reducible repeat (first | refine blk_drewN ?_ _ | refine blk_drew ?_ | refine blk_alloc ?_ _)); exact BK218.out) hb)
            have n2_ := Aside0.mk (blk_below (g := gb219) (o := .cells #[.int .i64 a1_0, .int .i64 a1_1] 54 (0, 0)) (by (with_reducible repeat (first | refine blk_drewN ?_ _ | refine blk_drew ?_ | refine blk_alloc ?_ _)); exact BK219.out) hb)
            have n3_ := Aside0.mk (below_step (by repeat (first | (with_reducible first | exact HB.out | apply below_alloc | apply pw_below_drewN | apply below_drew1 | refine below_set ?_ GE218.out | refine below_set ?_ GE219.out) | exact HB.out)) hb)
            clear BK218
            clear BK219
            clear HB
            have HO229 := n0_
            have BK218 := n1_
            have BK219 := n2_
            have HB := n3_
            clear n0_ n1_ n2_ n3_
            (try clear hb)
            (try clear hb2)
            (try clear hk)
            (try clear hi)
            (try clear ho0)
            refine hK.out _ _ ⟨(blk_cell BK218.out 0).trans rfl, (blk_cell BK218.out 1).trans rfl, (blk_cell BK219.out 0).trans rfl, (blk_cell BK219.out 1).trans rfl⟩ (fun hHeld => ?_)
            clear hK K
            refine norm_ (a' := ?_) ?_ ?_
            rotate_left
            · show Act.put _ (some 37) _ = _
              simp only [Act.put, List.setIfInBounds_toArray, List.set_cons_zero, List.set_cons_succ, i64_w, i32_w]
              rfl
            refine pure_ (i := 6) (N := some 8) (v := ?_) (a' := ?_) #[true, true, true, true, true, true, true] rfl rfl (by kernel_rfl) (fun _ _ _ h => h) (Or.inl ⟨by rfl, ?_⟩) ?_ ?_
            rotate_left
            · intro w'
              go_simp
              with_reducible rfl
            rotate_left
            · simp only [Act.put, List.setIfInBounds_toArray, List.set_cons_zero, List.set_cons_succ, i64_w, i32_w]
              rfl
            refine done_ (by kernel_rfl) ?_
            try go_wp2
            go_ret
            exact ⟨_, by first | rfl | (simp [errW_none, errW_some] <;> rfl) | (simp [*, errW_none, errW_some] <;> rfl), by (with_reducible repeat (first | apply Kd.R_alloc | apply Kd.R_drewN | apply Kd.R_drew)); exact HO229.out, by repeat (first | (with_reducible first | exact HB.out | apply below_alloc | apply pw_below_drewN | apply below_drew1 | refine below_set ?_ GE218.out | refine below_set ?_ GE219.out) | exact HB.out)⟩
          · rw [if_neg c23] at H
            have c23b0 : (a2 == 1) = false := beq_eq_false_iff_ne.mpr c23
            have c23b1 : (a2 != 1) = true := bne_iff_ne.mpr c23
            obtain rfl := Option.some.inj H
            go_enter Try.func33, Try.ntmps33
            try go_wp2_with (first | ((with_reducible refine gate_dst (N := 4) rfl ?_); refine box_event ?hg (N := 4) ?hd (cs := #[.slice A0_0 l0_0.length c0_0, .slice A0_1 l0_1.length c0_1]) (t := 41) ?hr ?_; (case hd => rfl); (case hg => rfl); (case hr => first | (go_simp; done) | (go_simp; rfl)); intro gb218 hg w34 hbox hb; have n0_ := Aside0.mk (below_step (by repeat (first | (with_reducible first | exact HB.out | apply below_alloc | apply pw_below_drewN | apply below_drew1) | exact HB.out)) hb); have n1_ := Aside0.mk (hbox); have n2_ := Aside0.mk ((by rw [hg]; exact (below_size (by repeat (first | (with_reducible first | exact HB.out | apply below_alloc | apply pw_below_drewN | apply below_drew1) | exact HB.out))) : w.heap.size ≤ gb218)); have n3_ := Aside0.mk ((by rw [hg]; exact (below_size (by repeat (first | (with_reducible first | exact HB.out | apply below_alloc | apply pw_below_drewN | apply below_drew1) | exact HB.out))) : w.heap.size ≤ gb218)); clear HB; have HB := n0_; have BK218 := n1_; have GW218 := n2_; have GE218 := n3_; clear n0_ n1_ n2_ n3_; clear hb hbox hg) | ((with_reducible refine gate_dst (N := 5) rfl ?_); refine box_event ?hg (N := 5) ?hd (cs := #[.int .i64 a1_0, .int .i64 a1_1]) (t := 54) ?hr ?_; (case hd => rfl); (case hg => rfl); (case hr => first | (go_simp; done) | (go_simp; rfl)); intro gb219 hg w35 hbox hb; have n0_ := Aside0.mk (blk_below (g := gb218) (o := .cells #[.slice A0_0 l0_0.length c0_0, .slice A0_1 l0_1.length c0_1] 41 (0, 0)) (by (with_reducible repeat (first | refine blk_drewN ?_ _ | refine blk_drew ?_ | refine blk_alloc ?_ _)); exact BK218.out) hb); have n1_ := Aside0.mk (below_step (by repeat (first | (with_reducible first | exact HB.out | apply below_alloc | apply pw_below_drewN | apply below_drew1 | refine below_set ?_ GE218.out) | exact HB.out)) hb); have n2_ := Aside0.mk (hbox); have n3_ := Aside0.mk ((by rw [hg]; exact (below_size (by repeat (first | (with_reducible first | exact HB.out | apply below_alloc | apply pw_below_drewN | apply below_drew1 | refine below_set ?_ GE218.out) | exact HB.out))) : w.heap.size ≤ gb219)); have n4_ := Aside0.mk ((by rw [hg]; exact (below_size (by repeat (first | (with_reducible first | exact HB.out | apply below_alloc | apply pw_below_drewN | apply below_drew1 | refine below_set ?_ GE218.out) | exact HB.out))) : w.heap.size ≤ gb219)); have n5_ := Aside0.mk ((by rw [hg]; exact Nat.ne_of_lt (blk_lt (g := gb218) (o := .cells #[.slice A0_0 l0_0.length c0_0, .slice A0_1 l0_1.length c0_1] 41 (0, 0)) (by (with_reducible repeat (first | refine blk_drewN ?_ _ | refine blk_drew ?_ | refine blk_alloc ?_ _)); exact BK218.out)) : gb218 ≠ gb219)); have n6_ := Aside0.mk ((by rw [hg]; exact Nat.ne_of_gt (blk_lt (g := gb218) (o := .cells #[.slice A0_0 l0_0.length c0_0, .slice A0_1 l0_1.length c0_1] 41 (0, 0)) (by (with_reducible repeat (first | refine blk_drewN ?_ _ | refine blk_drew ?_ | refine blk_alloc ?_ _)); exact BK218.out)) : gb219 ≠ gb218)); clear BK218; clear HB; have BK218 := n0_; have HB := n1_; have BK219 := n2_; have GW219 := n3_; have GE219 := n4_; have NB218_219 := n5_; have NB219_218 := n6_; clear n0_ n1_ n2_ n3_ n4_ n5_ n6_; clear hb hbox hg))
            have n0_ := Aside0.mk (blk_drew BK218.out)
            have n1_ := Aside0.mk (blk_drew BK219.out)
            have n2_ := Aside0.mk (below_drew1 HB.out)
            clear BK218
            clear BK219
            clear HB
            have BK218 := n0_
            have BK219 := n1_
            have HB := n2_
            clear n0_ n1_ n2_
            refine start_ (n := 23) (S := fun w' => w'.cell? ⟨gb219, 0, none⟩ = some (.int .i64 a1_0) ∧ w'.cell? ⟨gb219, 1, none⟩ = some (.int .i64 a1_1) ∧ w'.cell? ⟨gb218, 0, none⟩ = some (.slice A0_0 l0_0.length c0_0) ∧ w'.cell? ⟨gb218, 1, none⟩ = some (.slice A0_1 l0_1.length c0_1)) (ds := []) #[false, false, false, false, false, false, false, false, false, false, false, false, false, false, false, false, false, false, false, false, false, false, false] (by kernel_rfl) rfl rfl ⟨(blk_cell BK219.out 0).trans rfl, (blk_cell BK219.out 1).trans rfl, (blk_cell BK218.out 0).trans rfl, (blk_cell BK218.out 1).trans rfl⟩ (fun hHeld => ?_); refine with_tabW impl_AreaBytes.tab1 impl_AreaBytes.bits1 (fun HT_ HW_ => ?_)
            generalize w35.drew = w36 at BK218 BK219 HB hHeld ⊢
            refine take_ (i := 0) (N := some 9) (v := ?_) (a' := ?_) #[true, false, false, false, false, false, false, false, false, false, false, false, false, false, false, false, false, false, false, false, false, false, false] rfl rfl (take_ofW HT_.out HW_.out (by kernel_rfl)) (fun _ _ _ h => h) (Or.inl ⟨by rfl, ?_⟩) hHeld ?_ ?_
            rotate_left
            · rintro w' ⟨s0, s1, s2, s3⟩
              go_simp
              with_reducible rfl
            rotate_left
            · simp only [Act.put, List.setIfInBounds_toArray, List.set_cons_zero, List.set_cons_succ, i64_w, i32_w]
              rfl
            refine one_ (i := 1) (N := some 10) #[true, true, false, false, false, false, false, false, false, false, false, false, false, false, false, false, false, false, false, false, false, false, false] rfl rfl (one_of HT_.out (by kernel_rfl)) (by decide) (fun K hK => ?_)
            refine goes_ Try.func72 (by kernel_rfl) rfl #[.agg #[.int .i64 a1_0, .int .i64 a1_1]] (by rfl) rfl rfl (by (try simp only [List.map_toArray, List.map_cons, List.map_nil]); first | done | rfl | (simp only [List.length_drop, List.length_take]; rfl)) ?_
            with_reducible refine (impl_Config_valid.calls a1_0 a1_1 true _ A5.out).mono ?_
            rintro e w37 ⟨rfl, hb⟩
            refine ⟨_, rfl, ?_⟩
            have n0_ := Aside0.mk (blk_below (g := gb218) (o := .cells #[.slice A0_0 l0_0.length c0_0, .slice A0_1 l0_1.length c0_1] 41 (0, 0)) (by (with_reducible repeat (first | refine blk_drewN ?_ _ | refine blk_drew ?_ | refine blk_alloc ?_ _)); exact BK218.out) hb)
            have n1_ := Aside0.mk (blk_below (g := gb219) (o := .cells #[.int .i64 a1_0, .int .i64 a1_1] 54 (0, 0)) (by (with_reducible repeat (first | refine blk_drewN ?_ _ | refine blk_drew ?_ | refine blk_alloc ?_ _)); exact BK219.out) hb)
            have n2_ := Aside0.mk (below_step (by repeat (first | (with_reducible first | exact HB.out | apply below_alloc | apply pw_below_drewN | apply below_drew1 | refine below_set ?_ GE218.out | refine below_set ?_ GE219.out) | exact HB.out)) hb)
            clear BK218
            clear BK219
            clear HB
            have BK218 := n0_
            have BK219 := n1_
            have HB := n2_
            clear n0_ n1_ n2_
            (try clear hb)
            (try clear hb2)
            (try clear hk)
            (try clear hi)
            refine hK.out _ _ ⟨(blk_cell BK219.out 0).trans rfl, (blk_cell BK219.out 1).trans rfl, (blk_cell BK218.out 0).trans rfl, (blk_cell BK218.out 1).trans rfl⟩ (fun hHeld => ?_)
            clear hK K
            refine norm_ (a' := ?_) ?_ ?_
            rotate_left
            · show Act.put _ (some 10) _ = _
              simp only [Act.put, List.setIfInBounds_toArray, List.set_cons_zero, List.set_cons_succ, i64_w, i32_w]
              rfl
            refine pure_ (i := 2) (N := some 11) (v := ?_) (a' := ?_) #[true, true, true, false, false, false, false, false, false, false, false, false, false, false, false, false, false, false, false, false, false, false, false] rfl rfl (any_of HT_.out (by kernel_rfl)) (fun _ _ _ h => h) (Or.inl ⟨by rfl, ?_⟩) ?_ ?_
            rotate_left
            · intro w'
              go_simp
              with_reducible rfl
            rotate_left
            · simp only [Act.put, List.setIfInBounds_toArray, List.set_cons_zero, List.set_cons_succ, i64_w, i32_w]
              rfl
            refine pure_ (i := 3) (N := some 12) (v := ?_) (a' := ?_) #[true, true, true, true, false, false, false, false, false, false, false, false, false, false, false, false, false, false, false, false, false, false, false] rfl rfl (any_of HT_.out (by kernel_rfl)) (fun _ _ _ h => h) (Or.inl ⟨by rfl, ?_⟩) ?_ ?_
            rotate_left
            · intro w'
              go_simp
              with_reducible rfl
            rotate_left
            · simp only [Act.put, List.setIfInBounds_toArray, List.set_cons_zero, List.set_cons_succ, i64_w, i32_w]
              rfl
            refine take_ (i := 4) (N := some 13) (v := ?_) (a' := ?_) #[true, true, true, true, true, false, false, false, false, false, false, false, false, false, false, false, false, false, false, false, false, false, false] rfl rfl (take_ofW HT_.out HW_.out (by kernel_rfl)) (fun _ _ _ h => h) (Or.inl ⟨by rfl, ?_⟩) hHeld ?_ ?_
            rotate_left
            · rintro w' ⟨s0, s1, s2, s3⟩
              go_simp
              with_reducible rfl
            rotate_left
            · simp only [Act.put, List.setIfInBounds_toArray, List.set_cons_zero, List.set_cons_succ, i64_w, i32_w]
              rfl
            refine one_ (i := 5) (N := some 14) #[true, true, true, true, true, true, false, false, false, false, false, false, false, false, false, false, false, false, false, false, false, false, false] rfl rfl (one_of HT_.out (by kernel_rfl)) (by decide) (fun K hK => ?_)
            refine goes_ Try.func57 (by kernel_rfl) rfl #[.agg #[.slice A0_0 l0_0.length c0_0, .slice A0_1 l0_1.length c0_1]] (by rfl) rfl rfl (by (try simp only [List.map_toArray, List.map_cons, List.map_nil]); first | done | rfl | (simp only [List.length_drop, List.length_take]; rfl)) ?_
            with_reducible refine (impl_ValidDisk.calls k _ _ l0_0 _ _ l0_1 true _ ?side1 ?side2 ?side3 ?side4 A7.out).mono ?_
            (case side1 => repeat (first | exact (Kd.C_below HR0_0.out HB.out) | (with_reducible refine Kd.C_alloc ?_ _) | (with_reducible refine Kd.C_drewN ?_ _) | (with_reducible refine Kd.C_drew ?_)))
            (case side2 => exact HC0_0.out)
            (case side3 => repeat (first | exact (Kd.C_below HR0_1.out HB.out) | (with_reducible refine Kd.C_alloc ?_ _) | (with_reducible refine Kd.C_drewN ?_ _) | (with_reducible refine Kd.C_drew ?_)))
            (case side4 => exact HC0_1.out)
            rintro e w38 ⟨rfl, hb⟩
            refine ⟨_, rfl, ?_⟩
            have n0_ := Aside0.mk (blk_below (g := gb218) (o := .cells #[.slice A0_0 l0_0.length c0_0, .slice A0_1 l0_1.length c0_1] 41 (0, 0)) (by (with_reducible repeat (first | refine blk_drewN ?_ _ | refine blk_drew ?_ | refine blk_alloc ?_ _)); exact BK218.out) hb)
            have n1_ := Aside0.mk (blk_below (g := gb219) (o := .cells #[.int .i64 a1_0, .int .i64 a1_1] 54 (0, 0)) (by (with_reducible repeat (first | refine blk_drewN ?_ _ | refine blk_drew ?_ | refine blk_alloc ?_ _)); exact BK219.out) hb)
            have n2_ := Aside0.mk (below_step (by repeat (first | (with_reducible first | exact HB.out | apply below_alloc | apply pw_below_drewN | apply below_drew1 | refine below_set ?_ GE218.out | refine below_set ?_ GE219.out) | exact HB.out)) hb)
            clear BK218
            clear BK219
            clear HB
            have BK218 := n0_
            have BK219 := n1_
            have HB := n2_
            clear n0_ n1_ n2_
            (try clear hb)
            (try clear hb2)
            (try clear hk)
            (try clear hi)
            refine hK.out _ _ ⟨(blk_cell BK219.out 0).trans rfl, (blk_cell BK219.out 1).trans rfl, (blk_cell BK218.out 0).trans rfl, (blk_cell BK218.out 1).trans rfl⟩ (fun hHeld => ?_)
            clear hK K
            refine norm_ (a' := ?_) ?_ ?_
            rotate_left
            · show Act.put _ (some 14) _ = _
              simp only [Act.put, List.setIfInBounds_toArray, List.set_cons_zero, List.set_cons_succ, i64_w, i32_w]
              rfl
            refine pure_ (i := 6) (N := some 15) (v := ?_) (a' := ?_) #[true, true, true, true, true, true, true, false, false, false, false, false, false, false, false, false, false, false, false, false, false, false, false] rfl rfl (any_of HT_.out (by kernel_rfl)) (fun _ _ _ h => h) (Or.inl ⟨by rfl, ?_⟩) ?_ ?_
            rotate_left
            · intro w'
              go_simp
              with_reducible rfl
            rotate_left
            · simp only [Act.put, List.setIfInBounds_toArray, List.set_cons_zero, List.set_cons_succ, i64_w, i32_w]
              rfl
            refine pure_ (i := 7) (N := some 16) (v := ?_) (a' := ?_) #[true, true, true, true, true, true, true, true, false, false, false, false, false, false, false, false, false, false, false, false, false, false, false] rfl rfl (any_of HT_.out (by kernel_rfl)) (fun _ _ _ h => h) (Or.inl ⟨by rfl, ?_⟩) ?_ ?_
            rotate_left
            · intro w'
              go_simp
              with_reducible rfl
            rotate_left
            · simp only [Act.put, List.setIfInBounds_toArray, List.set_cons_zero, List.set_cons_succ, i64_w, i32_w]
              rfl
            refine pure_ (i := 8) (N := some 17) (v := ?_) (a' := ?_) #[true, true, true, true, true, true, true, true, true, false, false, false, false, false, false, false, false, false, false, false, false, false, false] rfl rfl (any_of HT_.out (by kernel_rfl)) (fun _ _ _ h => h) (Or.inl ⟨by rfl, ?_⟩) ?_ ?_
            rotate_left
            · intro w'
              go_simp
              with_reducible rfl
            rotate_left
            · simp only [Act.put, List.setIfInBounds_toArray, List.set_cons_zero, List.set_cons_succ, i64_w, i32_w]
              rfl
            refine take_ (i := 9) (N := some 18) (v := ?_) (a' := ?_) #[true, true, true, true, true, true, true, true, true, true, false, false, false, false, false, false, false, false, false, false, false, false, false] rfl rfl (take_ofW HT_.out HW_.out (by kernel_rfl)) (fun _ _ _ h => h) (Or.inl ⟨by rfl, ?_⟩) hHeld ?_ ?_
            rotate_left
            · rintro w' ⟨s0, s1, s2, s3⟩
              go_simp
              with_reducible rfl
            rotate_left
            · simp only [Act.put, List.setIfInBounds_toArray, List.set_cons_zero, List.set_cons_succ, i64_w, i32_w]
              rfl
            refine take_ (i := 11) (N := some 20) (v := ?_) (a' := ?_) #[true, true, true, true, true, true, true, true, true, true, false, true, false, false, false, false, false, false, false, false, false, false, false] rfl rfl (take_ofW HT_.out HW_.out (by kernel_rfl)) (fun _ _ _ h => h) (Or.inl ⟨by rfl, ?_⟩) hHeld ?_ ?_
            rotate_left
            · rintro w' ⟨s0, s1, s2, s3⟩
              go_simp
              with_reducible rfl
            rotate_left
            · simp only [Act.put, List.setIfInBounds_toArray, List.set_cons_zero, List.set_cons_succ, i64_w, i32_w]
              rfl
            refine one_ (i := 10) (N := some 19) #[true, true, true, true, true, true, true, true, true, true, true, true, false, false, false, false, false, false, false, false, false, false, false] rfl rfl (one_of HT_.out (by kernel_rfl)) (by decide) (fun K hK => ?_)
            refine goes_ Try.func58 (by kernel_rfl) rfl #[.agg #[.slice A0_0 l0_0.length c0_0, .slice A0_1 l0_1.length c0_1]] (by rfl) rfl rfl (by (try simp only [List.map_toArray, List.map_cons, List.map_nil]); first | done | rfl | (simp only [List.length_drop, List.length_take]; rfl)) ?_
            with_reducible refine (impl_Disk_blocks.calls _ _ l0_0 _ _ l0_1 t222 _ ?side1 ?side2 ?side3 ?side4 A9.out).mono ?_
            (case side1 => repeat (first | exact (Kd.C_below HR0_0.out HB.out) | (with_reducible refine Kd.C_alloc ?_ _) | (with_reducible refine Kd.C_drewN ?_ _) | (with_reducible refine Kd.C_drew ?_)))
            (case side2 => exact HC0_0.out)
            (case side3 => repeat (first | exact (Kd.C_below HR0_1.out HB.out) | (with_reducible refine Kd.C_alloc ?_ _) | (with_reducible refine Kd.C_drewN ?_ _) | (with_reducible refine Kd.C_drew ?_)))
            (case side4 => exact HC0_1.out)
            rintro e w39 ⟨rfl, hb⟩
            refine ⟨_, rfl, ?_⟩
            have n0_ := Aside0.mk (blk_below (g := gb218) (o := .cells #[.slice A0_0 l0_0.length c0_0, .slice A0_1 l0_1.length c0_1] 41 (0, 0)) (by (with_reducible repeat (first | refine blk_drewN ?_ _ | refine blk_drew ?_ | refine blk_alloc ?_ _)); exact BK218.out) hb)
            have n1_ := Aside0.mk (blk_below (g := gb219) (o := .cells #[.int .i64 a1_0, .int .i64 a1_1] 54 (0, 0)) (by (with_reducible repeat (first | refine blk_drewN ?_ _ | refine blk_drew ?_ | refine blk_alloc ?_ _)); exact BK219.out) hb)
            have n2_ := Aside0.mk (below_step (by repeat (first | (with_reducible first | exact HB.out | apply below_alloc | apply pw_below_drewN | apply below_drew1 | refine below_set ?_ GE218.out | refine below_set ?_ GE219.out) | exact HB.out)) hb)
            clear BK218
            clear BK219
            clear HB
            have BK218 := n0_
            have BK219 := n1_
            have HB := n2_
            clear n0_ n1_ n2_
            (try clear hb)
            (try clear hb2)
            (try clear hk)
            (try clear hi)
            refine hK.out _ _ ⟨(blk_cell BK219.out 0).trans rfl, (blk_cell BK219.out 1).trans rfl, (blk_cell BK218.out 0).trans rfl, (blk_cell BK218.out 1).trans rfl⟩ (fun hHeld => ?_)
            clear hK K
            refine norm_ (a' := ?_) ?_ ?_
            rotate_left
            · show Act.put _ (some 19) _ = _
              simp only [Act.put, List.setIfInBounds_toArray, List.set_cons_zero, List.set_cons_succ, i64_w, i32_w]
              rfl
            refine one_ (i := 12) (N := some 21) #[true, true, true, true, true, true, true, true, true, true, true, true, true, false, false, false, false, false, false, false, false, false, false] rfl rfl (one_of HT_.out (by kernel_rfl)) (by decide) (fun K hK => ?_)
            refine goes_ Try.func73 (by kernel_rfl) rfl #[.agg #[.int .i64 a1_0, .int .i64 a1_1]] (by rfl) rfl rfl (by (try simp only [List.map_toArray, List.map_cons, List.map_nil]); first | done | rfl | (simp only [List.length_drop, List.length_take]; rfl)) ?_
            with_reducible refine (impl_Config_blocks.calls a1_0 a1_1 t223 _ A10.out).mono ?_
            rintro e w40 ⟨rfl, hb⟩
            refine ⟨_, rfl, ?_⟩
            have n0_ := Aside0.mk (blk_below (g := gb218) (o := .cells #[.slice A0_0 l0_0.length c0_0, .slice A0_1 l0_1.length c0_1] 41 (0, 0)) (by (with_reducible repeat (first | refine blk_drewN ?_ _ | refine blk_drew ?_ | refine blk_alloc ?_ _)); exact BK218.out) hb)
            have n1_ := Aside0.mk (blk_below (g := gb219) (o := .cells #[.int .i64 a1_0, .int .i64 a1_1] 54 (0, 0)) (by (with_reducible repeat (first | refine blk_drewN ?_ _ | refine blk_drew ?_ | refine blk_alloc ?_ _)); exact BK219.out) hb)
            have n2_ := Aside0.mk (below_step (by repeat (first | (with_reducible first | exact HB.out | apply below_alloc | apply pw_below_drewN | apply below_drew1 | refine below_set ?_ GE218.out | refine below_set ?_ GE219.out) | exact HB.out)) hb)
            clear BK218
            clear BK219
            clear HB
            have BK218 := n0_
            have BK219 := n1_
            have HB := n2_
            clear n0_ n1_ n2_
            (try clear hb)
            (try clear hb2)
            (try clear hk)
            (try clear hi)
            refine hK.out _ _ ⟨(blk_cell BK219.out 0).trans rfl, (blk_cell BK219.out 1).trans rfl, (blk_cell BK218.out 0).trans rfl, (blk_cell BK218.out 1).trans rfl⟩ (fun hHeld => ?_)
            clear hK K
            refine norm_ (a' := ?_) ?_ ?_
            rotate_left
            · show Act.put _ (some 21) _ = _
              simp only [Act.put, List.setIfInBounds_toArray, List.set_cons_zero, List.set_cons_succ, i64_w, i32_w]
              rfl
            refine pure_ (i := 13) (N := some 22) (v := ?_) (a' := ?_) #[true, true, true, true, true, true, true, true, true, true, true, true, true, true, false, false, false, false, false, false, false, false, false] rfl rfl (any_of HT_.out (by kernel_rfl)) (fun _ _ _ h => h) (Or.inl ⟨by rfl, ?_⟩) ?_ ?_
            rotate_left
            · intro w'
              go_simp
              with_reducible rfl
            rotate_left
            · simp only [Act.put, List.setIfInBounds_toArray, List.set_cons_zero, List.set_cons_succ, i64_w, i32_w]
              rfl
            refine pure_ (i := 14) (N := some 23) (v := ?_) (a' := ?_) #[true, true, true, true, true, true, true, true, true, true, true, true, true, true, true, false, false, false, false, false, false, false, false] rfl rfl (any_of HT_.out (by kernel_rfl)) (fun _ _ _ h => h) (Or.inl ⟨by rfl, ?_⟩) ?_ ?_
            rotate_left
            · intro w'
              go_simp
              with_reducible rfl
            rotate_left
            · simp only [Act.put, List.setIfInBounds_toArray, List.set_cons_zero, List.set_cons_succ, i64_w, i32_w]
              rfl
            refine pure_ (i := 15) (N := some 24) (v := ?_) (a' := ?_) #[true, true, true, true, true, true, true, true, true, true, true, true, true, true, true, true, false, false, false, false, false, false, false] rfl rfl (any_of HT_.out (by kernel_rfl)) (fun _ _ _ h => h) (Or.inl ⟨by rfl, ?_⟩) ?_ ?_
            rotate_left
            · intro w'
              go_simp
              with_reducible rfl
            rotate_left
            · simp only [Act.put, List.setIfInBounds_toArray, List.set_cons_zero, List.set_cons_succ, i64_w, i32_w]
              rfl
            refine pure_ (i := 16) (N := some 25) (v := ?_) (a' := ?_) #[true, true, true, true, true, true, true, true, true, true, true, true, true, true, true, true, true, false, false, false, false, false, false] rfl rfl (any_of HT_.out (by kernel_rfl)) (fun _ _ _ h => h) (Or.inl ⟨by rfl, ?_⟩) ?_ ?_
            rotate_left
            · intro w'
              go_simp
              with_reducible rfl
            rotate_left
            · simp only [Act.put, List.setIfInBounds_toArray, List.set_cons_zero, List.set_cons_succ, i64_w, i32_w]
              rfl
            refine pure_ (i := 17) (N := some 26) (v := ?_) (a' := ?_) #[true, true, true, true, true, true, true, true, true, true, true, true, true, true, true, true, true, true, false, false, false, false, false] rfl rfl (any_of HT_.out (by kernel_rfl)) (fun _ _ _ h => h) (Or.inl ⟨by rfl, ?_⟩) ?_ ?_
            rotate_left
            · intro w'
              go_simp
              with_reducible rfl
            rotate_left
            · simp only [Act.put, List.setIfInBounds_toArray, List.set_cons_zero, List.set_cons_succ, i64_w, i32_w]
              rfl
            refine pure_ (i := 18) (N := some 27) (v := ?_) (a' := ?_) #[true, true, true, true, true, true, true, true, true, true, true, true, true, true, true, true, true, true, true, false, false, false, false] rfl rfl (any_of HT_.out (by kernel_rfl)) (fun _ _ _ h => h) (Or.inl ⟨by rfl, ?_⟩) ?_ ?_
            rotate_left
            · intro w'
              go_simp
              with_reducible rfl
            rotate_left
            · simp only [Act.put, List.setIfInBounds_toArray, List.set_cons_zero, List.set_cons_succ, i64_w, i32_w]
              rfl
            refine pure_ (i := 19) (N := some 28) (v := ?_) (a' := ?_) #[true, true, true, true, true, true, true, true, true, true, true, true, true, true, true, true, true, true, true, true, false, false, false] rfl rfl (any_of HT_.out (by kernel_rfl)) (fun _ _ _ h => h) (Or.inl ⟨by rfl, ?_⟩) ?_ ?_
            rotate_left
            · intro w'
              go_simp
              with_reducible rfl
            rotate_left
            · simp only [Act.put, List.setIfInBounds_toArray, List.set_cons_zero, List.set_cons_succ, i64_w, i32_w]
              rfl
            refine pure_ (i := 20) (N := some 29) (v := ?_) (a' := ?_) #[true, true, true, true, true, true, true, true, true, true, true, true, true, true, true, true, true, true, true, true, true, false, false] rfl rfl (any_of HT_.out (by kernel_rfl)) (fun _ _ _ h => h) (Or.inl ⟨by rfl, ?_⟩) ?_ ?_
            rotate_left
            · intro w'
              go_simp
              with_reducible rfl
            rotate_left
            · simp only [Act.put, List.setIfInBounds_toArray, List.set_cons_zero, List.set_cons_succ, i64_w, i32_w]
              rfl
            refine pure_ (i := 21) (N := some 30) (v := ?_) (a' := ?_) #[true, true, true, true, true, true, true, true, true, true, true, true, true, true, true, true, true, true, true, true, true, true, false] rfl rfl (any_of HT_.out (by kernel_rfl)) (fun _ _ _ h => h) (Or.inl ⟨by rfl, ?_⟩) ?_ ?_
            rotate_left
            · intro w'
              go_simp
              with_reducible rfl
            rotate_left
            · simp only [Act.put, List.setIfInBounds_toArray, List.set_cons_zero, List.set_cons_succ, i64_w, i32_w]
              rfl
            refine pure_ (i := 22) (N := some 31) (v := ?_) (a' := ?_) #[true, true, true, true, true, true, true, true, true, true, true, true, true, true, true, true, true, true, true, true, true, true, true] rfl rfl (any_of HT_.out (by kernel_rfl)) (fun _ _ _ h => h) (Or.inl ⟨by rfl, ?_⟩) ?_ ?_
            rotate_left
            · intro w'
              go_simp
              with_reducible rfl
            rotate_left
            · simp only [Act.put, List.setIfInBounds_toArray, List.set_cons_zero, List.set_cons_succ, i64_w, i32_w]
              rfl
            refine done_ (done_of HT_.out (by kernel_rfl)) ?_
            try go_wp2
            go_ret
            exact ⟨_, by first | rfl | (simp [errW_none, errW_some] <;> rfl) | (simp [*, errW_none, errW_some] <;> rfl), by first | exact Kd.R_nil _ _ _ _ _ | exact Kd.N_nil _ _ _ _ _ | exact Kd.V_nil _ _ _ _ _ | exact Kd.Q_nil _ _ _ _ _ | exact Kd.S_nil _ _ _ _ _, by repeat (first | (with_reducible first | exact HB.out | apply below_alloc | apply pw_below_drewN | apply below_drew1 | refine below_set ?_ GE218.out | refine below_set ?_ GE219.out) | exact HB.out)⟩
      · rw [if_neg c11] at H
        have c11b0 : (t222 == t223) = false := beq_eq_false_iff_ne.mpr c11
        have c11b1 : (t222 != t223) = true := bne_iff_ne.mpr c11
        obtain rfl := Option.some.inj H
        go_enter Try.func33, Try.ntmps33
        try go_wp2_with (first | ((with_reducible refine gate_dst (N := 4) rfl ?_); refine box_event ?hg (N := 4) ?hd (cs := #[.slice A0_0 l0_0.length c0_0, .slice A0_1 l0_1.length c0_1]) (t := 41) ?hr ?_; (case hd => rfl); (case hg => rfl); (case hr => first | (go_simp; done) | (go_simp; rfl)); intro gb218 hg w41 hbox hb; have n0_ := Aside0.mk (below_step (by repeat (first | (with_reducible first | exact HB.out | apply below_alloc | apply pw_below_drewN | apply below_drew1) | exact HB.out)) hb); have n1_ := Aside0.mk (hbox); have n2_ := Aside0.mk ((by rw [hg]; exact (below_size (by repeat (first | (with_reducible first | exact HB.out | apply below_alloc | apply pw_below_drewN | apply below_drew1) | exact HB.out))) : w.heap.size ≤ gb218)); have n3_ := Aside0.mk ((by rw [hg]; exact (below_size (by repeat (first | (with_reducible first | exact HB.out | apply below_alloc | apply pw_below_drewN | apply below_drew1) | exact HB.out))) : w.heap.size ≤ gb218)); clear HB; have HB := n0_; have BK218 := n1_; have GW218 := n2_; have GE218 := n3_; clear n0_ n1_ n2_ n3_; clear hb hbox hg) | ((with_reducible refine gate_dst (N := 5) rfl ?_); refine box_event ?hg (N := 5) ?hd (cs := #[.int .i64 a1_0, .int .i64 a1_1]) (t := 54) ?hr ?_; (case hd => rfl); (case hg => rfl); (case hr => first | (go_simp; done) | (go_simp; rfl)); intro gb219 hg w42 hbox hb; have n0_ := Aside0.mk (blk_below (g := gb218) (o := .cells #[.slice A0_0 l0_0.length c0_0, .slice A0_1 l0_1.length c0_1] 41 (0, 0)) (by (with_reducible repeat (first | refine blk_drewN ?_ _ | refine blk_drew ?_ | refine blk_alloc ?_ _)); exact BK218.out) hb); have n1_ := Aside0.mk (below_step (by repeat (first | (with_reducible first | exact HB.out | apply below_alloc | apply pw_below_drewN | apply below_drew1 | refine below_set ?_ GE218.out) | exact HB.out)) hb); have n2_ := Aside0.mk (hbox); have n3_ := Aside0.mk ((by rw [hg]; exact (below_size (by repeat (first | (with_reducible first | exact HB.out | apply below_alloc | apply pw_below_drewN | apply below_drew1 | refine below_set ?_ GE218.out) | exact HB.out))) : w.heap.size ≤ gb219)); have n4_ := Aside0.mk ((by rw [hg]; exact (below_size (by repeat (first | (with_reducible first | exact HB.out | apply below_alloc | apply pw_below_drewN | apply below_drew1 | refine below_set ?_ GE218.out) | exact HB.out))) : w.heap.size ≤ gb219)); have n5_ := Aside0.mk ((by rw [hg]; exact Nat.ne_of_lt (blk_lt (g := gb218) (o := .cells #[.slice A0_0 l0_0.length c0_0, .slice A0_1 l0_1.length c0_1] 41 (0, 0)) (by (with_reducible repeat (first | refine blk_drewN ?_ _ | refine blk_drew ?_ | refine blk_alloc ?_ _)); exact BK218.out)) : gb218 ≠ gb219)); have n6_ := Aside0.mk ((by rw [hg]; exact Nat.ne_of_gt (blk_lt (g := gb218) (o := .cells #[.slice A0_0 l0_0.length c0_0, .slice A0_1 l0_1.length c0_1] 41 (0, 0)) (by (with_reducible repeat (first | refine blk_drewN ?_ _ | refine blk_drew ?_ | refine blk_alloc ?_ _)); exact BK218.out)) : gb219 ≠ gb218)); clear BK218; clear HB; have BK218 := n0_; have HB := n1_; have BK219 := n2_; have GW219 := n3_; have GE219 := n4_; have NB218_219 := n5_; have NB219_218 := n6_; clear n0_ n1_ n2_ n3_ n4_ n5_ n6_; clear hb hbox hg))
        have n0_ := Aside0.mk (blk_drew BK218.out)
        have n1_ := Aside0.mk (blk_drew BK219.out)
        have n2_ := Aside0.mk (below_drew1 HB.out)
        clear BK218
        clear BK219
        clear HB
        have BK218 := n0_
        have BK219 := n1_
        have HB := n2_
        clear n0_ n1_ n2_
        refine start_ (n := 23) (S := fun w' => w'.cell? ⟨gb219, 0, none⟩ = some (.int .i64 a1_0) ∧ w'.cell? ⟨gb219, 1, none⟩ = some (.int .i64 a1_1) ∧ w'.cell? ⟨gb218, 0, none⟩ = some (.slice A0_0 l0_0.length c0_0) ∧ w'.cell? ⟨gb218, 1, none⟩ = some (.slice A0_1 l0_1.length c0_1)) (ds := []) #[false, false, false, false, false, false, false, false, false, false, false, false, false, false, false, false, false, false, false, false, false, false, false] (by kernel_rfl) rfl rfl ⟨(blk_cell BK219.out 0).trans rfl, (blk_cell BK219.out 1).trans rfl, (blk_cell BK218.out 0).trans rfl, (blk_cell BK218.out 1).trans rfl⟩ (fun hHeld => ?_); refine with_tabW impl_AreaBytes.tab1 impl_AreaBytes.bits1 (fun HT_ HW_ => ?_)
        generalize w42.drew = w43 at BK218 BK219 HB hHeld ⊢
        refine take_ (i := 0) (N := some 9) (v := ?_) (a' := ?_) #[true, false, false, false, false, false, false, false, false, false, false, false, false, false, false, false, false, false, false, false, false, false, false] rfl rfl (take_ofW HT_.out HW_.out (by kernel_rfl)) (fun _ _ _ h => h) (Or.inl ⟨by rfl, ?_⟩) hHeld ?_ ?_
        rotate_left
        · rintro w' ⟨s0, s1, s2, s3⟩
          go_simp
          with_reducible rfl
        rotate_left
        · simp only [Act.put, List.setIfInBounds_toArray, List.set_cons_zero, List.set_cons_succ, i64_w, i32_w]
          rfl
        refine one_ (i := 1) (N := some 10) #[true, true, false, false, false, false, false, false, false, false, false, false, false, false, false, false, false, false, false, false, false, false, false] rfl rfl (one_of HT_.out (by kernel_rfl)) (by decide) (fun K hK => ?_)
        refine goes_ Try.func72 (by kernel_rfl) rfl #[.agg #[.int .i64 a1_0, .int .i64 a1_1]] (by rfl) rfl rfl (by (try simp only [List.map_toArray, List.map_cons, List.map_nil]); first | done | rfl | (simp only [List.length_drop, List.length_take]; rfl)) ?_
        with_reducible refine (impl_Config_valid.calls a1_0 a1_1 true _ A5.out).mono ?_
        rintro e w44 ⟨rfl, hb⟩
        refine ⟨_, rfl, ?_⟩
        have n0_ := Aside0.mk (blk_below (g := gb218) (o := .cells #[.slice A0_0 l0_0.length c0_0, .slice A0_1 l0_1.length c0_1] 41 (0, 0)) (by (with_reducible repeat (first | refine blk_drewN ?_ _ | refine blk_drew ?_ | refine blk_alloc ?_ _)); exact BK218.out) hb)
        have n1_ := Aside0.mk (blk_below (g := gb219) (o := .cells #[.int .i64 a1_0, .int .i64 a1_1] 54 (0, 0)) (by (with_reducible repeat (first | refine blk_drewN ?_ _ | refine blk_drew ?_ | refine blk_alloc ?_ _)); exact BK219.out) hb)
        have n2_ := Aside0.mk (below_step (by repeat (first | (with_reducible first | exact HB.out | apply below_alloc | apply pw_below_drewN | apply below_drew1 | refine below_set ?_ GE218.out | refine below_set ?_ GE219.out) | exact HB.out)) hb)
        clear BK218
        clear BK219
        clear HB
        have BK218 := n0_
        have BK219 := n1_
        have HB := n2_
        clear n0_ n1_ n2_
        (try clear hb)
        (try clear hb2)
        (try clear hk)
        (try clear hi)
        refine hK.out _ _ ⟨(blk_cell BK219.out 0).trans rfl, (blk_cell BK219.out 1).trans rfl, (blk_cell BK218.out 0).trans rfl, (blk_cell BK218.out 1).trans rfl⟩ (fun hHeld => ?_)
        clear hK K
        refine norm_ (a' := ?_) ?_ ?_
        rotate_left
        · show Act.put _ (some 10) _ = _
          simp only [Act.put, List.setIfInBounds_toArray, List.set_cons_zero, List.set_cons_succ, i64_w, i32_w]
          rfl
        refine pure_ (i := 2) (N := some 11) (v := ?_) (a' := ?_) #[true, true, true, false, false, false, false, false, false, false, false, false, false, false, false, false, false, false, false, false, false, false, false] rfl rfl (any_of HT_.out (by kernel_rfl)) (fun _ _ _ h => h) (Or.inl ⟨by rfl, ?_⟩) ?_ ?_
        rotate_left
        · intro w'
          go_simp
          with_reducible rfl
        rotate_left
        · simp only [Act.put, List.setIfInBounds_toArray, List.set_cons_zero, List.set_cons_succ, i64_w, i32_w]
          rfl
        refine pure_ (i := 3) (N := some 12) (v := ?_) (a' := ?_) #[true, true, true, true, false, false, false, false, false, false, false, false, false, false, false, false, false, false, false, false, false, false, false] rfl rfl (any_of HT_.out (by kernel_rfl)) (fun _ _ _ h => h) (Or.inl ⟨by rfl, ?_⟩) ?_ ?_
        rotate_left
        · intro w'
          go_simp
          with_reducible rfl
        rotate_left
        · simp only [Act.put, List.setIfInBounds_toArray, List.set_cons_zero, List.set_cons_succ, i64_w, i32_w]
          rfl
        refine take_ (i := 4) (N := some 13) (v := ?_) (a' := ?_) #[true, true, true, true, true, false, false, false, false, false, false, false, false, false, false, false, false, false, false, false, false, false, false] rfl rfl (take_ofW HT_.out HW_.out (by kernel_rfl)) (fun _ _ _ h => h) (Or.inl ⟨by rfl, ?_⟩) hHeld ?_ ?_
        rotate_left
        · rintro w' ⟨s0, s1, s2, s3⟩
          go_simp
          with_reducible rfl
        rotate_left
        · simp only [Act.put, List.setIfInBounds_toArray, List.set_cons_zero, List.set_cons_succ, i64_w, i32_w]
          rfl
        refine one_ (i := 5) (N := some 14) #[true, true, true, true, true, true, false, false, false, false, false, false, false, false, false, false, false, false, false, false, false, false, false] rfl rfl (one_of HT_.out (by kernel_rfl)) (by decide) (fun K hK => ?_)
        refine goes_ Try.func57 (by kernel_rfl) rfl #[.agg #[.slice A0_0 l0_0.length c0_0, .slice A0_1 l0_1.length c0_1]] (by rfl) rfl rfl (by (try simp only [List.map_toArray, List.map_cons, List.map_nil]); first | done | rfl | (simp only [List.length_drop, List.length_take]; rfl)) ?_
        with_reducible refine (impl_ValidDisk.calls k _ _ l0_0 _ _ l0_1 true _ ?side1 ?side2 ?side3 ?side4 A7.out).mono ?_
        (case side1 => repeat (first | exact (Kd.C_below HR0_0.out HB.out) | (with_reducible refine Kd.C_alloc ?_ _) | (with_reducible refine Kd.C_drewN ?_ _) | (with_reducible refine Kd.C_drew ?_)))
        (case side2 => exact HC0_0.out)
        (case side3 => repeat (first | exact (Kd.C_below HR0_1.out HB.out) | (with_reducible refine Kd.C_alloc ?_ _) | (with_reducible refine Kd.C_drewN ?_ _) | (with_reducible refine Kd.C_drew ?_)))
        (case side4 => exact HC0_1.out)
        rintro e w45 ⟨rfl, hb⟩
        refine ⟨_, rfl, ?_⟩
        have n0_ := Aside0.mk (blk_below (g := gb218) (o := .cells #[.slice A0_0 l0_0.length c0_0, .slice A0_1 l0_1.length c0_1] 41 (0, 0)) (by (with_reducible repeat (first | refine blk_drewN ?_ _ | refine blk_drew ?_ | refine blk_alloc ?_ _)); exact BK218.out) hb)
        have n1_ := Aside0.mk (blk_below (g := gb219) (o := .cells #[.int .i64 a1_0, .int .i64 a1_1] 54 (0, 0)) (by (with_reducible repeat (first | refine blk_drewN ?_ _ | refine blk_drew ?_ | refine blk_alloc ?_ _)); exact BK219.out) hb)
        have n2_ := Aside0.mk (below_step (by repeat (first | (with_reducible first | exact HB.out | apply below_alloc | apply pw_below_drewN | apply below_drew1 | refine below_set ?_ GE218.out | refine below_set ?_ GE219.out) | exact HB.out)) hb)
        clear BK218
        clear BK219
        clear HB
        have BK218 := n0_
        have BK219 := n1_
        have HB := n2_
        clear n0_ n1_ n2_
        (try clear hb)
        (try clear hb2)
        (try clear hk)
        (try clear hi)
        refine hK.out _ _ ⟨(blk_cell BK219.out 0).trans rfl, (blk_cell BK219.out 1).trans rfl, (blk_cell BK218.out 0).trans rfl, (blk_cell BK218.out 1).trans rfl⟩ (fun hHeld => ?_)
        clear hK K
        refine norm_ (a' := ?_) ?_ ?_
        rotate_left
        · show Act.put _ (some 14) _ = _
          simp only [Act.put, List.setIfInBounds_toArray, List.set_cons_zero, List.set_cons_succ, i64_w, i32_w]
          rfl
        refine pure_ (i := 6) (N := some 15) (v := ?_) (a' := ?_) #[true, true, true, true, true, true, true, false, false, false, false, false, false, false, false, false, false, false, false, false, false, false, false] rfl rfl (any_of HT_.out (by kernel_rfl)) (fun _ _ _ h => h) (Or.inl ⟨by rfl, ?_⟩) ?_ ?_
        rotate_left
        · intro w'
          go_simp
          with_reducible rfl
        rotate_left
        · simp only [Act.put, List.setIfInBounds_toArray, List.set_cons_zero, List.set_cons_succ, i64_w, i32_w]
          rfl
        refine pure_ (i := 7) (N := some 16) (v := ?_) (a' := ?_) #[true, true, true, true, true, true, true, true, false, false, false, false, false, false, false, false, false, false, false, false, false, false, false] rfl rfl (any_of HT_.out (by kernel_rfl)) (fun _ _ _ h => h) (Or.inl ⟨by rfl, ?_⟩) ?_ ?_
        rotate_left
        · intro w'
          go_simp
          with_reducible rfl
        rotate_left
        · simp only [Act.put, List.setIfInBounds_toArray, List.set_cons_zero, List.set_cons_succ, i64_w, i32_w]
          rfl
        refine pure_ (i := 8) (N := some 17) (v := ?_) (a' := ?_) #[true, true, true, true, true, true, true, true, true, false, false, false, false, false, false, false, false, false, false, false, false, false, false] rfl rfl (any_of HT_.out (by kernel_rfl)) (fun _ _ _ h => h) (Or.inl ⟨by rfl, ?_⟩) ?_ ?_
        rotate_left
        · intro w'
          go_simp
          with_reducible rfl
        rotate_left
        · simp only [Act.put, List.setIfInBounds_toArray, List.set_cons_zero, List.set_cons_succ, i64_w, i32_w]
          rfl
        refine take_ (i := 9) (N := some 18) (v := ?_) (a' := ?_) #[true, true, true, true, true, true, true, true, true, true, false, false, false, false, false, false, false, false, false, false, false, false, false] rfl rfl (take_ofW HT_.out HW_.out (by kernel_rfl)) (fun _ _ _ h => h) (Or.inl ⟨by rfl, ?_⟩) hHeld ?_ ?_
        rotate_left
        · rintro w' ⟨s0, s1, s2, s3⟩
          go_simp
          with_reducible rfl
        rotate_left
        · simp only [Act.put, List.setIfInBounds_toArray, List.set_cons_zero, List.set_cons_succ, i64_w, i32_w]
          rfl
        refine take_ (i := 11) (N := some 20) (v := ?_) (a' := ?_) #[true, true, true, true, true, true, true, true, true, true, false, true, false, false, false, false, false, false, false, false, false, false, false] rfl rfl (take_ofW HT_.out HW_.out (by kernel_rfl)) (fun _ _ _ h => h) (Or.inl ⟨by rfl, ?_⟩) hHeld ?_ ?_
        rotate_left
        · rintro w' ⟨s0, s1, s2, s3⟩
          go_simp
          with_reducible rfl
        rotate_left
        · simp only [Act.put, List.setIfInBounds_toArray, List.set_cons_zero, List.set_cons_succ, i64_w, i32_w]
          rfl
        refine one_ (i := 10) (N := some 19) #[true, true, true, true, true, true, true, true, true, true, true, true, false, false, false, false, false, false, false, false, false, false, false] rfl rfl (one_of HT_.out (by kernel_rfl)) (by decide) (fun K hK => ?_)
        refine goes_ Try.func58 (by kernel_rfl) rfl #[.agg #[.slice A0_0 l0_0.length c0_0, .slice A0_1 l0_1.length c0_1]] (by rfl) rfl rfl (by (try simp only [List.map_toArray, List.map_cons, List.map_nil]); first | done | rfl | (simp only [List.length_drop, List.length_take]; rfl)) ?_
        with_reducible refine (impl_Disk_blocks.calls _ _ l0_0 _ _ l0_1 t222 _ ?side1 ?side2 ?side3 ?side4 A9.out).mono ?_
        (case side1 => repeat (first | exact (Kd.C_below HR0_0.out HB.out) | (with_reducible refine Kd.C_alloc ?_ _) | (with_reducible refine Kd.C_drewN ?_ _) | (with_reducible refine Kd.C_drew ?_)))
        (case side2 => exact HC0_0.out)
        (case side3 => repeat (first | exact (Kd.C_below HR0_1.out HB.out) | (with_reducible refine Kd.C_alloc ?_ _) | (with_reducible refine Kd.C_drewN ?_ _) | (with_reducible refine Kd.C_drew ?_)))
        (case side4 => exact HC0_1.out)
        rintro e w46 ⟨rfl, hb⟩
        refine ⟨_, rfl, ?_⟩
        have n0_ := Aside0.mk (blk_below (g := gb218) (o := .cells #[.slice A0_0 l0_0.length c0_0, .slice A0_1 l0_1.length c0_1] 41 (0, 0)) (by (with_reducible repeat (first | refine blk_drewN ?_ _ | refine blk_drew ?_ | refine blk_alloc ?_ _)); exact BK218.out) hb)
        have n1_ := Aside0.mk (blk_below (g := gb219) (o := .cells #[.int .i64 a1_0, .int .i64 a1_1] 54 (0, 0)) (by (with_reducible repeat (first | refine blk_drewN ?_ _ | refine blk_drew ?_ | refine blk_alloc ?_ _)); exact BK219.out) hb)
        have n2_ := Aside0.mk (below_step (by repeat (first | (with_reducible first | exact HB.out | apply below_alloc | apply pw_below_drewN | apply below_drew1 | refine below_set ?_ GE218.out | refine below_set ?_ GE219.out) | exact HB.out)) hb)
        clear BK218
        clear BK219
        clear HB
        have BK218 := n0_
        have BK219 := n1_
        have HB := n2_
        clear n0_ n1_ n2_
        (try clear hb)
        (try clear hb2)
        (try clear hk)
        (try clear hi)
        refine hK.out _ _ ⟨(blk_cell BK219.out 0).trans rfl, (blk_cell BK219.out 1).trans rfl, (blk_cell BK218.out 0).trans rfl, (blk_cell BK218.out 1).trans rfl⟩ (fun hHeld => ?_)
        clear hK K
        refine norm_ (a' := ?_) ?_ ?_
        rotate_left
        · show Act.put _ (some 19) _ = _
          simp only [Act.put, List.setIfInBounds_toArray, List.set_cons_zero, List.set_cons_succ, i64_w, i32_w]
          rfl
        refine one_ (i := 12) (N := some 21) #[true, true, true, true, true, true, true, true, true, true, true, true, true, false, false, false, false, false, false, false, false, false, false] rfl rfl (one_of HT_.out (by kernel_rfl)) (by decide) (fun K hK => ?_)
        refine goes_ Try.func73 (by kernel_rfl) rfl #[.agg #[.int .i64 a1_0, .int .i64 a1_1]] (by rfl) rfl rfl (by (try simp only [List.map_toArray, List.map_cons, List.map_nil]); first | done | rfl | (simp only [List.length_drop, List.length_take]; rfl)) ?_
        with_reducible refine (impl_Config_blocks.calls a1_0 a1_1 t223 _ A10.out).mono ?_
        rintro e w47 ⟨rfl, hb⟩
        refine ⟨_, rfl, ?_⟩
        have n0_ := Aside0.mk (blk_below (g := gb218) (o := .cells #[.slice A0_0 l0_0.length c0_0, .slice A0_1 l0_1.length c0_1] 41 (0, 0)) (by (with_reducible repeat (first | refine blk_drewN ?_ _ | refine blk_drew ?_ | refine blk_alloc ?_ _)); exact BK218.out) hb)
        have n1_ := Aside0.mk (blk_below (g := gb219) (o := .cells #[.int .i64 a1_0, .int .i64 a1_1] 54 (0, 0)) (by (with_reducible repeat (first | refine blk_drewN ?_ _ | refine blk_drew ?_ | refine blk_alloc ?_ _)); exact BK219.out) hb)
        have n2_ := Aside0.mk (below_step (by repeat (first | (with_reducible first | exact HB.out | apply below_alloc | apply pw_below_drewN | apply below_drew1 | refine below_set ?_ GE218.out | refine below_set ?_ GE219.out) | exact HB.out)) hb)
        clear BK218
        clear BK219
        clear HB
        have BK218 := n0_
        have BK219 := n1_
        have HB := n2_
        clear n0_ n1_ n2_
        (try clear hb)
        (try clear hb2)
        (try clear hk)
        (try clear hi)
        refine hK.out _ _ ⟨(blk_cell BK219.out 0).trans rfl, (blk_cell BK219.out 1).trans rfl, (blk_cell BK218.out 0).trans rfl, (blk_cell BK218.out 1).trans rfl⟩ (fun hHeld => ?_)
        clear hK K
        refine norm_ (a' := ?_) ?_ ?_
        rotate_left
        · show Act.put _ (some 21) _ = _
          simp only [Act.put, List.setIfInBounds_toArray, List.set_cons_zero, List.set_cons_succ, i64_w, i32_w]
          rfl
        refine pure_ (i := 13) (N := some 22) (v := ?_) (a' := ?_) #[true, true, true, true, true, true, true, true, true, true, true, true, true, true, false, false, false, false, false, false, false, false, false] rfl rfl (any_of HT_.out (by kernel_rfl)) (fun _ _ _ h => h) (Or.inl ⟨by rfl, ?_⟩) ?_ ?_
        rotate_left
        · intro w'
          go_simp
          with_reducible rfl
        rotate_left
        · simp only [Act.put, List.setIfInBounds_toArray, List.set_cons_zero, List.set_cons_succ, i64_w, i32_w]
          rfl
        refine pure_ (i := 14) (N := some 23) (v := ?_) (a' := ?_) #[true, true, true, true, true, true, true, true, true, true, true, true, true, true, true, false, false, false, false, false, false, false, false] rfl rfl (any_of HT_.out (by kernel_rfl)) (fun _ _ _ h => h) (Or.inl ⟨by rfl, ?_⟩) ?_ ?_
        rotate_left
        · intro w'
          go_simp
          with_reducible rfl
        rotate_left
        · simp only [Act.put, List.setIfInBounds_toArray, List.set_cons_zero, List.set_cons_succ, i64_w, i32_w]
          rfl
        refine pure_ (i := 15) (N := some 24) (v := ?_) (a' := ?_) #[true, true, true, true, true, true, true, true, true, true, true, true, true, true, true, true, false, false, false, false, false, false, false] rfl rfl (any_of HT_.out (by kernel_rfl)) (fun _ _ _ h => h) (Or.inl ⟨by rfl, ?_⟩) ?_ ?_
        rotate_left
        · intro w'
          go_simp
          with_reducible rfl
        rotate_left
        · simp only [Act.put, List.setIfInBounds_toArray, List.set_cons_zero, List.set_cons_succ, i64_w, i32_w]
          rfl
        refine pure_ (i := 16) (N := some 25) (v := undef) (a' := ?_) #[true, true, true, true, true, true, true, true, true, true, true, true, true, true, true, true, true, false, false, false, false, false, false] rfl rfl (any_of HT_.out (by kernel_rfl)) (fun _ _ _ h => h) (Or.inr ⟨by rfl, rfl⟩) ?_ ?_
        rotate_left
        · simp only [Act.put, List.setIfInBounds_toArray, List.set_cons_zero, List.set_cons_succ, i64_w, i32_w]
          rfl
        refine pure_ (i := 17) (N := some 26) (v := undef) (a' := ?_) #[true, true, true, true, true, true, true, true, true, true, true, true, true, true, true, true, true, true, false, false, false, false, false] rfl rfl (any_of HT_.out (by kernel_rfl)) (fun _ _ _ h => h) (Or.inr ⟨by rfl, rfl⟩) ?_ ?_
        rotate_left
        · simp only [Act.put, List.setIfInBounds_toArray, List.set_cons_zero, List.set_cons_succ, i64_w, i32_w]
          rfl
        refine pure_ (i := 18) (N := some 27) (v := undef) (a' := ?_) #[true, true, true, true, true, true, true, true, true, true, true, true, true, true, true, true, true, true, true, false, false, false, false] rfl rfl (any_of HT_.out (by kernel_rfl)) (fun _ _ _ h => h) (Or.inr ⟨by rfl, rfl⟩) ?_ ?_
        rotate_left
        · simp only [Act.put, List.setIfInBounds_toArray, List.set_cons_zero, List.set_cons_succ, i64_w, i32_w]
          rfl
        refine pure_ (i := 19) (N := some 28) (v := undef) (a' := ?_) #[true, true, true, true, true, true, true, true, true, true, true, true, true, true, true, true, true, true, true, true, false, false, false] rfl rfl (any_of HT_.out (by kernel_rfl)) (fun _ _ _ h => h) (Or.inr ⟨by rfl, rfl⟩) ?_ ?_
        rotate_left
        · simp only [Act.put, List.setIfInBounds_toArray, List.set_cons_zero, List.set_cons_succ, i64_w, i32_w]
          rfl
        refine pure_ (i := 20) (N := some 29) (v := undef) (a' := ?_) #[true, true, true, true, true, true, true, true, true, true, true, true, true, true, true, true, true, true, true, true, true, false, false] rfl rfl (any_of HT_.out (by kernel_rfl)) (fun _ _ _ h => h) (Or.inr ⟨by rfl, rfl⟩) ?_ ?_
        rotate_left
        · simp only [Act.put, List.setIfInBounds_toArray, List.set_cons_zero, List.set_cons_succ, i64_w, i32_w]
          rfl
        refine pure_ (i := 21) (N := some 30) (v := undef) (a' := ?_) #[true, true, true, true, true, true, true, true, true, true, true, true, true, true, true, true, true, true, true, true, true, true, false] rfl rfl (any_of HT_.out (by kernel_rfl)) (fun _ _ _ h => h) (Or.inr ⟨by rfl, rfl⟩) ?_ ?_
        rotate_left
        · simp only [Act.put, List.setIfInBounds_toArray, List.set_cons_zero, List.set_cons_succ, i64_w, i32_w]
          rfl
        refine pure_ (i := 22) (N := some 31) (v := ?_) (a' := ?_) #[true, true, true, true, true, true, true, true, true, true, true, true, true, true, true, true, true, true, true, true, true, true, true] rfl rfl (any_of HT_.out (by kernel_rfl)) (fun _ _ _ h => h) (Or.inl ⟨by rfl, ?_⟩) ?_ ?_
        rotate_left
        · intro w'
          go_simp
          with_reducible rfl
        rotate_left
        · simp only [Act.put, List.setIfInBounds_toArray, List.set_cons_zero, List.set_cons_succ, i64_w, i32_w]
          rfl
        refine done_ (done_of HT_.out (by kernel_rfl)) ?_
        try go_wp2
        go_ret
        exact ⟨_, by first | rfl | (simp [errW_none, errW_some] <;> rfl) | (simp [*, errW_none, errW_some] <;> rfl), by first | exact Kd.R_nil _ _ _ _ _ | exact Kd.N_nil _ _ _ _ _ | exact Kd.V_nil _ _ _ _ _ | exact Kd.Q_nil _ _ _ _ _ | exact Kd.S_nil _ _ _ _ _, by repeat (first | (with_reducible first | exact HB.out | apply below_alloc | apply pw_below_drewN | apply below_drew1 | refine below_set ?_ GE218.out | refine below_set ?_ GE219.out) | exact HB.out)⟩
    · replace c8 := Bool.eq_false_iff.mpr c8
      subst c8
      have H1 : (some ([] : List Int)) = some r := by rw [if_neg (show ¬ (false = true) by decide)] at H; exact H
      clear H
      have H := H1
      clear H1
      obtain rfl := Option.some.inj H
      go_enter Try.func33, Try.ntmps33
      try go_wp2_with (first | ((with_reducible refine gate_dst (N := 4) rfl ?_); refine box_event ?hg (N := 4) ?hd (cs := #[.slice A0_0 l0_0.length c0_0, .slice A0_1 l0_1.length c0_1]) (t := 41) ?hr ?_; (case hd => rfl); (case hg => rfl); (case hr => first | (go_simp; done) | (go_simp; rfl)); intro gb218 hg w48 hbox hb; have n0_ := Aside0.mk (below_step (by repeat (first | (with_reducible first | exact HB.out | apply below_alloc | apply pw_below_drewN | apply below_drew1) | exact HB.out)) hb); have n1_ := Aside0.mk (hbox); have n2_ := Aside0.mk ((by rw [hg]; exact (below_size (by repeat (first | (with_reducible first | exact HB.out | apply below_alloc | apply pw_below_drewN | apply below_drew1) | exact HB.out))) : w.heap.size ≤ gb218)); have n3_ := Aside0.mk ((by rw [hg]; exact (below_size (by repeat (first | (with_reducible first | exact HB.out | apply below_alloc | apply pw_below_drewN | apply below_drew1) | exact HB.out))) : w.heap.size ≤ gb218)); clear HB; have HB := n0_; have BK218 := n1_; have GW218 := n2_; have GE218 := n3_; clear n0_ n1_ n2_ n3_; clear hb hbox hg) | ((with_reducible refine gate_dst (N := 5) rfl ?_); refine box_event ?hg (N := 5) ?hd (cs := #[.int .i64 a1_0, .int .i64 a1_1]) (t := 54) ?hr ?_; (case hd => rfl); (case hg => rfl); (case hr => first | (go_simp; done) | (go_simp; rfl)); intro gb219 hg w49 hbox hb; have n0_ := Aside0.mk (blk_below (g := gb218) (o := .cells #[.slice A0_0 l0_0.length c0_0, .slice A0_1 l0_1.length c0_1] 41 (0, 0)) (by (with_reducible repeat (first | refine blk_drewN ?_ _ | refine blk_drew ?_ | refine blk_alloc ?_ _)); exact BK218.out) hb); have n1_ := Aside0.mk (below_step (by repeat (first | (with_reducible first | exact HB.out | apply below_alloc | apply pw_below_drewN | apply below_drew1 | refine below_set ?_ GE218.out) | exact HB.out)) hb); have n2_ := Aside0.mk (hbox); have n3_ := Aside0.mk ((by rw [hg]; exact (below_size (by repeat (first | (with_reducible first | exact HB.out | apply below_alloc | apply pw_below_drewN | apply below_drew1 | refine below_set ?_ GE218.out) | exact HB.out))) : w.heap.size ≤ gb219)); have n4_ := Aside0.mk ((by rw [hg]; exact (below_size (by repeat (first | (with_reducible first | exact HB.out | apply below_alloc | apply pw_below_drewN | apply below_drew1 | refine below_set ?_ GE218.out) | exact HB.out))) : w.heap.size ≤ gb219)); have n5_ := Aside0.mk ((by rw [hg]; exact Nat.ne_of_lt (blk_lt (g := gb218) (o := .cells #[.slice A0_0 l0_0.length c0_0, .slice A0_1 l0_1.length c0_1] 41 (0, 0)) (by (with_reducible repeat (first | refine blk_drewN ?_ _ | refine blk_drew ?_ | refine blk_alloc ?_ _)); exact BK218.out)) : gb218 ≠ gb219)); have n6_ := Aside0.mk ((by rw [hg]; exact Nat.ne_of_gt (blk_lt (g := gb218) (o := .cells #[.slice A0_0 l0_0.length c0_0, .slice A0_1 l0_1.length c0_1] 41 (0, 0)) (by (with_reducible repeat (first | refine blk_drewN ?_ _ | refine blk_drew ?_ | refine blk_alloc ?_ _)); exact BK218.out)) : gb219 ≠ gb218)); clear BK218; clear HB; have BK218 := n0_; have HB := n1_; have BK219 := n2_; have GW219 := n3_; have GE219 := n4_; have NB218_219 := n5_; have NB219_218 := n6_; clear n0_ n1_ n2_ n3_ n4_ n5_ n6_; clear hb hbox hg))
      have n0_ := Aside0.mk (blk_drew BK218.out)
      have n1_ := Aside0.mk (blk_drew BK219.out)
      have n2_ := Aside0.mk (below_drew1 HB.out)
      clear BK218
      clear BK219
      clear HB
      have BK218 := n0_
      have BK219 := n1_
      have HB := n2_
      clear n0_ n1_ n2_
      refine start_ (n := 23) (S := fun w' => w'.cell? ⟨gb219, 0, none⟩ = some (.int .i64 a1_0) ∧ w'.cell? ⟨gb219, 1, none⟩ = some (.int .i64 a1_1) ∧ w'.cell? ⟨gb218, 0, none⟩ = some (.slice A0_0 l0_0.length c0_0) ∧ w'.cell? ⟨gb218, 1, none⟩ = some (.slice A0_1 l0_1.length c0_1)) (ds := []) #[false, false, false, false, false, false, false, false, false, false, false, false, false, false, false, false, false, false, false, false, false, false, false] (by kernel_rfl) rfl rfl ⟨(blk_cell BK219.out 0).trans rfl, (blk_cell BK219.out 1).trans rfl, (blk_cell BK218.out 0).trans rfl, (blk_cell BK218.out 1).trans rfl⟩ (fun hHeld => ?_); refine with_tabW impl_AreaBytes.tab1 impl_AreaBytes.bits1 (fun HT_ HW_ => ?_)
      generalize w49.drew = w50 at BK218 BK219 HB hHeld ⊢
      refine take_ (i := 0) (N := some 9) (v := ?_) (a' := ?_) #[true, false, false, false, false, false, false, false, false, false, false, false, false, false, false, false, false, false, false, false, false, false, false] rfl rfl (take_ofW HT_.out HW_.out (by kernel_rfl)) (fun _ _ _ h => h) (Or.inl ⟨by rfl, ?_⟩) hHeld ?_ ?_
      rotate_left
      · rintro w' ⟨s0, s1, s2, s3⟩
        go_simp
        with_reducible rfl
      rotate_left
      · simp only [Act.put, List.setIfInBounds_toArray, List.set_cons_zero, List.set_cons_succ, i64_w, i32_w]
        rfl
      refine one_ (i := 1) (N := some 10) #[true, true, false, false, false, false, false, false, false, false, false, false, false, false, false, false, false, false, false, false, false, false, false] rfl rfl (one_of HT_.out (by kernel_rfl)) (by decide) (fun K hK => ?_)
      refine goes_ Try.func72 (by kernel_rfl) rfl #[.agg #[.int .i64 a1_0, .int .i64 a1_1]] (by rfl) rfl rfl (by (try simp only [List.map_toArray, List.map_cons, List.map_nil]); first | done | rfl | (simp only [List.length_drop, List.length_take]; rfl)) ?_
      with_reducible refine (impl_Config_valid.calls a1_0 a1_1 true _ A5.out).mono ?_
      rintro e w51 ⟨rfl, hb⟩
      refine ⟨_, rfl, ?_⟩
      have n0_ := Aside0.mk (blk_below (g := gb218) (o := .cells #[.slice A0_0 l0_0.length c0_0, .slice A0_1 l0_1.length c0_1] 41 (0, 0)) (by (with_reducible repeat (first | refine blk_drewN ?_ _ | refine blk_drew ?_ | refine blk_alloc ?_ _)); exact BK218.out) hb)
      have n1_ := Aside0.mk (blk_below (g := gb219) (o := .cells #[.int .i64 a1_0, .int .i64 a1_1] 54 (0, 0)) (by (with_reducible repeat (first | refine blk_drewN ?_ _ | refine blk_drew ?_ | refine blk_alloc ?_ _)); exact BK219.out) hb)
      have n2_ := Aside0.mk (below_step (by repeat (first | (with_reducible first | exact HB.out | apply below_alloc | apply pw_below_drewN | apply below_drew1 | refine below_set ?_ GE218.out | refine below_set ?_ GE219.out) | exact HB.out)) hb)
      clear BK218
      clear BK219
      clear HB
      have BK218 := n0_
      have BK219 := n1_
      have HB := n2_
      clear n0_ n1_ n2_
      (try clear hb)
      (try clear hb2)
      (try clear hk)
      (try clear hi)
      refine hK.out _ _ ⟨(blk_cell BK219.out 0).trans rfl, (blk_cell BK219.out 1).trans rfl, (blk_cell BK218.out 0).trans rfl, (blk_cell BK218.out 1).trans rfl⟩ (fun hHeld => ?_)
      clear hK K
      refine norm_ (a' := ?_) ?_ ?_
      rotate_left
      · show Act.put _ (some 10) _ = _
        simp only [Act.put, List.setIfInBounds_toArray, List.set_cons_zero, List.set_cons_succ, i64_w, i32_w]
        rfl
      refine pure_ (i := 2) (N := some 11) (v := ?_) (a' := ?_) #[true, true, true, false, false, false, false, false, false, false, false, false, false, false, false, false, false, false, false, false, false, false, false] rfl rfl (any_of HT_.out (by kernel_rfl)) (fun _ _ _ h => h) (Or.inl ⟨by rfl, ?_⟩) ?_ ?_
      rotate_left
      · intro w'
        go_simp
        with_reducible rfl
      rotate_left
      · simp only [Act.put, List.setIfInBounds_toArray, List.set_cons_zero, List.set_cons_succ, i64_w, i32_w]
        rfl
      refine pure_ (i := 3) (N := some 12) (v := ?_) (a' := ?_) #[true, true, true, true, false, false, false, false, false, false, false, false, false, false, false, false, false, false, false, false, false, false, false] rfl rfl (any_of HT_.out (by kernel_rfl)) (fun _ _ _ h => h) (Or.inl ⟨by rfl, ?_⟩) ?_ ?_
      rotate_left
      · intro w'
        go_simp
        with_reducible rfl
      rotate_left
      · simp only [Act.put, List.setIfInBounds_toArray, List.set_cons_zero, List.set_cons_succ, i64_w, i32_w]
        rfl
      refine take_ (i := 4) (N := some 13) (v := ?_) (a' := ?_) #[true, true, true, true, true, false, false, false, false, false, false, false, false, false, false, false, false, false, false, false, false, false, false] rfl rfl (take_ofW HT_.out HW_.out (by kernel_rfl)) (fun _ _ _ h => h) (Or.inl ⟨by rfl, ?_⟩) hHeld ?_ ?_
      rotate_left
      · rintro w' ⟨s0, s1, s2, s3⟩
        go_simp
        with_reducible rfl
      rotate_left
      · simp only [Act.put, List.setIfInBounds_toArray, List.set_cons_zero, List.set_cons_succ, i64_w, i32_w]
        rfl
      refine one_ (i := 5) (N := some 14) #[true, true, true, true, true, true, false, false, false, false, false, false, false, false, false, false, false, false, false, false, false, false, false] rfl rfl (one_of HT_.out (by kernel_rfl)) (by decide) (fun K hK => ?_)
      refine goes_ Try.func57 (by kernel_rfl) rfl #[.agg #[.slice A0_0 l0_0.length c0_0, .slice A0_1 l0_1.length c0_1]] (by rfl) rfl rfl (by (try simp only [List.map_toArray, List.map_cons, List.map_nil]); first | done | rfl | (simp only [List.length_drop, List.length_take]; rfl)) ?_
      with_reducible refine (impl_ValidDisk.calls k _ _ l0_0 _ _ l0_1 false _ ?side1 ?side2 ?side3 ?side4 A7.out).mono ?_
      (case side1 => repeat (first | exact (Kd.C_below HR0_0.out HB.out) | (with_reducible refine Kd.C_alloc ?_ _) | (with_reducible refine Kd.C_drewN ?_ _) | (with_reducible refine Kd.C_drew ?_)))
      (case side2 => exact HC0_0.out)
      (case side3 => repeat (first | exact (Kd.C_below HR0_1.out HB.out) | (with_reducible refine Kd.C_alloc ?_ _) | (with_reducible refine Kd.C_drewN ?_ _) | (with_reducible refine Kd.C_drew ?_)))
      (case side4 => exact HC0_1.out)
      rintro e w52 ⟨rfl, hb⟩
      refine ⟨_, rfl, ?_⟩
      have n0_ := Aside0.mk (blk_below (g := gb218) (o := .cells #[.slice A0_0 l0_0.length c0_0, .slice A0_1 l0_1.length c0_1] 41 (0, 0)) (by (with_reducible repeat (first | refine blk_drewN ?_ _ | refine blk_drew ?_ | refine blk_alloc ?_ _)); exact BK218.out) hb)
      have n1_ := Aside0.mk (blk_below (g := gb219) (o := .cells #[.int .i64 a1_0, .int .i64 a1_1] 54 (0, 0)) (by (with_reducible repeat (first | refine blk_drewN ?_ _ | refine blk_drew ?_ | refine blk_alloc ?_ _)); exact BK219.out) hb)
      have n2_ := Aside0.mk (below_step (by repeat (first | (with_reducible first | exact HB.out | apply below_alloc | apply pw_below_drewN | apply below_drew1 | refine below_set ?_ GE218.out | refine below_set ?_ GE219.out) | exact HB.out)) hb)
      clear BK218
      clear BK219
      clear HB
      have BK218 := n0_
      have BK219 := n1_
      have HB := n2_
      clear n0_ n1_ n2_
      (try clear hb)
      (try clear hb2)
      (try clear hk)
      (try clear hi)
      refine hK.out _ _ ⟨(blk_cell BK219.out 0).trans rfl, (blk_cell BK219.out 1).trans rfl, (blk_cell BK218.out 0).trans rfl, (blk_cell BK218.out 1).trans rfl⟩ (fun hHeld => ?_)
      clear hK K
      refine norm_ (a' := ?_) ?_ ?_
      rotate_left
      · show Act.put _ (some 14) _ = _
        simp only [Act.put, List.setIfInBounds_toArray, List.set_cons_zero, List.set_cons_succ, i64_w, i32_w]
        rfl
      refine pure_ (i := 6) (N := some 15) (v := ?_) (a' := ?_) #[true, true, true, true, true, true, true, false, false, false, false, false, false, false, false, false, false, false, false, false, false, false, false] rfl rfl (any_of HT_.out (by kernel_rfl)) (fun _ _ _ h => h) (Or.inl ⟨by rfl, ?_⟩) ?_ ?_
      rotate_left
      · intro w'
        go_simp
        with_reducible rfl
      rotate_left
      · simp only [Act.put, List.setIfInBounds_toArray, List.set_cons_zero, List.set_cons_succ, i64_w, i32_w]
        rfl
      refine pure_ (i := 7) (N := some 16) (v := ?_) (a' := ?_) #[true, true, true, true, true, true, true, true, false, false, false, false, false, false, false, false, false, false, false, false, false, false, false] rfl rfl (any_of HT_.out (by kernel_rfl)) (fun _ _ _ h => h) (Or.inl ⟨by rfl, ?_⟩) ?_ ?_
      rotate_left
      · intro w'
        go_simp
        with_reducible rfl
      rotate_left
      · simp only [Act.put, List.setIfInBounds_toArray, List.set_cons_zero, List.set_cons_succ, i64_w, i32_w]
        rfl
      refine pure_ (i := 8) (N := some 17) (v := ?_) (a' := ?_) #[true, true, true, true, true, true, true, true, true, false, false, false, false, false, false, false, false, false, false, false, false, false, false] rfl rfl (any_of HT_.out (by kernel_rfl)) (fun _ _ _ h => h) (Or.inl ⟨by rfl, ?_⟩) ?_ ?_
      rotate_left
      · intro w'
        go_simp
        with_reducible rfl
      rotate_left
      · simp only [Act.put, List.setIfInBounds_toArray, List.set_cons_zero, List.set_cons_succ, i64_w, i32_w]
        rfl
      refine pure_ (i := 9) (N := some 18) (v := undef) (a' := ?_) #[true, true, true, true, true, true, true, true, true, true, false, false, false, false, false, false, false, false, false, false, false, false, false] rfl rfl (any_of HT_.out (by kernel_rfl)) (fun _ _ _ h => h) (Or.inr ⟨by rfl, rfl⟩) ?_ ?_
      rotate_left
      · simp only [Act.put, List.setIfInBounds_toArray, List.set_cons_zero, List.set_cons_succ, i64_w, i32_w]
        rfl
      refine pure_ (i := 10) (N := some 19) (v := undef) (a' := ?_) #[true, true, true, true, true, true, true, true, true, true, true, false, false, false, false, false, false, false, false, false, false, false, false] rfl rfl (any_of HT_.out (by kernel_rfl)) (fun _ _ _ h => h) (Or.inr ⟨by rfl, rfl⟩) ?_ ?_
      rotate_left
      · simp only [Act.put, List.setIfInBounds_toArray, List.set_cons_zero, List.set_cons_succ, i64_w, i32_w]
        rfl
      refine pure_ (i := 11) (N := some 20) (v := undef) (a' := ?_) #[true, true, true, true, true, true, true, true, true, true, true, true, false, false, false, false, false, false, false, false, false, false, false] rfl rfl (any_of HT_.out (by kernel_rfl)) (fun _ _ _ h => h) (Or.inr ⟨by rfl, rfl⟩) ?_ ?_
      rotate_left
      · simp only [Act.put, List.setIfInBounds_toArray, List.set_cons_zero, List.set_cons_succ, i64_w, i32_w]
        rfl
      refine pure_ (i := 12) (N := some 21) (v := undef) (a' := ?_) #[true, true, true, true, true, true, true, true, true, true, true, true, true, false, false, false, false, false, false, false, false, false, false] rfl rfl (any_of HT_.out (by kernel_rfl)) (fun _ _ _ h => h) (Or.inr ⟨by rfl, rfl⟩) ?_ ?_
      rotate_left
      · simp only [Act.put, List.setIfInBounds_toArray, List.set_cons_zero, List.set_cons_succ, i64_w, i32_w]
        rfl
      refine pure_ (i := 13) (N := some 22) (v := undef) (a' := ?_) #[true, true, true, true, true, true, true, true, true, true, true, true, true, true, false, false, false, false, false, false, false, false, false] rfl rfl (any_of HT_.out (by kernel_rfl)) (fun _ _ _ h => h) (Or.inr ⟨by rfl, rfl⟩) ?_ ?_
      rotate_left
      · simp only [Act.put, List.setIfInBounds_toArray, List.set_cons_zero, List.set_cons_succ, i64_w, i32_w]
        rfl
      refine pure_ (i := 14) (N := some 23) (v := ?_) (a' := ?_) #[true, true, true, true, true, true, true, true, true, true, true, true, true, true, true, false, false, false, false, false, false, false, false] rfl rfl (any_of HT_.out (by kernel_rfl)) (fun _ _ _ h => h) (Or.inl ⟨by rfl, ?_⟩) ?_ ?_
      rotate_left
      · intro w'
        go_simp
        with_reducible rfl
      rotate_left
      · simp only [Act.put, List.setIfInBounds_toArray, List.set_cons_zero, List.set_cons_succ, i64_w, i32_w]
        rfl
      refine pure_ (i := 15) (N := some 24) (v := ?_) (a' := ?_) #[true, true, true, true, true, true, true, true, true, true, true, true, true, true, true, true, false, false, false, false, false, false, false] rfl rfl (any_of HT_.out (by kernel_rfl)) (fun _ _ _ h => h) (Or.inl ⟨by rfl, ?_⟩) ?_ ?_
      rotate_left
      · intro w'
        go_simp
        with_reducible rfl
      rotate_left
      · simp only [Act.put, List.setIfInBounds_toArray, List.set_cons_zero, List.set_cons_succ, i64_w, i32_w]
        rfl
      refine pure_ (i := 16) (N := some 25) (v := undef) (a' := ?_) #[true, true, true, true, true, true, true, true, true, true, true, true, true, true, true, true, true, false, false, false, false, false, false] rfl rfl (any_of HT_.out (by kernel_rfl)) (fun _ _ _ h => h) (Or.inr ⟨by rfl, rfl⟩) ?_ ?_
      rotate_left
      · simp only [Act.put, List.setIfInBounds_toArray, List.set_cons_zero, List.set_cons_succ, i64_w, i32_w]
        rfl
      refine pure_ (i := 17) (N := some 26) (v := undef) (a' := ?_) #[true, true, true, true, true, true, true, true, true, true, true, true, true, true, true, true, true, true, false, false, false, false, false] rfl rfl (any_of HT_.out (by kernel_rfl)) (fun _ _ _ h => h) (Or.inr ⟨by rfl, rfl⟩) ?_ ?_
      rotate_left
      · simp only [Act.put, List.setIfInBounds_toArray, List.set_cons_zero, List.set_cons_succ, i64_w, i32_w]
        rfl
      refine pure_ (i := 18) (N := some 27) (v := undef) (a' := ?_) #[true, true, true, true, true, true, true, true, true, true, true, true, true, true, true, true, true, true, true, false, false, false, false] rfl rfl (any_of HT_.out (by kernel_rfl)) (fun _ _ _ h => h) (Or.inr ⟨by rfl, rfl⟩) ?_ ?_
      rotate_left
      · simp only [Act.put, List.setIfInBounds_toArray, List.set_cons_zero, List.set_cons_succ, i64_w, i32_w]
        rfl
      refine pure_ (i := 19) (N := some 28) (v := undef) (a' := ?_) #[true, true, true, true, true, true, true, true, true, true, true, true, true, true, true, true, true, true, true, true, false, false, false] rfl rfl (any_of HT_.out (by kernel_rfl)) (fun _ _ _ h => h) (Or.inr ⟨by rfl, rfl⟩) ?_ ?_
      rotate_left
      · simp only [Act.put, List.setIfInBounds_toArray, List.set_cons_zero, List.set_cons_succ, i64_w, i32_w]
        rfl
      refine pure_ (i := 20) (N := some 29) (v := undef) (a' := ?_) #[true, true, true, true, true, true, true, true, true, true, true, true, true, true, true, true, true, true, true, true, true, false, false] rfl rfl (any_of HT_.out (by kernel_rfl)) (fun _ _ _ h => h) (Or.inr ⟨by rfl, rfl⟩) ?_ ?_
      rotate_left
      · simp only [Act.put, List.setIfInBounds_toArray, List.set_cons_zero, List.set_cons_succ, i64_w, i32_w]
        rfl
      refine pure_ (i := 21) (N := some 30) (v := undef) (a' := ?_) #[true, true, true, true, true, true, true, true, true, true, true, true, true, true, true, true, true, true, true, true, true, true, false] rfl rfl (any_of HT_.out (by kernel_rfl)) (fun _ _ _ h => h) (Or.inr ⟨by rfl, rfl⟩) ?_ ?_
      rotate_left
      · simp only [Act.put, List.setIfInBounds_toArray, List.set_cons_zero, List.set_cons_succ, i64_w, i32_w]
        rfl
      refine pure_ (i := 22) (N := some 31) (v := ?_) (a' := ?_) #[true, true, true, true, true, true, true, true, true, true, true, true, true, true, true, true, true, true, true, true, true, true, true] rfl rfl (any_of HT_.out (by kernel_rfl)) (fun _ _ _ h => h) (Or.inl ⟨by rfl, ?_⟩) ?_ ?_
      rotate_left
      · intro w'
        go_simp
        with_reducible rfl
      rotate_left
      · simp only [Act.put, List.setIfInBounds_toArray, List.set_cons_zero, List.set_cons_succ, i64_w, i32_w]
        rfl
      refine done_ (done_of HT_.out (by kernel_rfl)) ?_
      try go_wp2
      go_ret
      exact ⟨_, by first | rfl | (simp [errW_none, errW_some] <;> rfl) | (simp [*, errW_none, errW_some] <;> rfl), by first | exact Kd.R_nil _ _ _ _ _ | exact Kd.N_nil _ _ _ _ _ | exact Kd.V_nil _ _ _ _ _ | exact Kd.Q_nil _ _ _ _ _ | exact Kd.S_nil _ _ _ _ _, by repeat (first | (with_reducible first | exact HB.out | apply below_alloc | apply pw_below_drewN | apply below_drew1 | refine below_set ?_ GE218.out | refine below_set ?_ GE219.out) | exact HB.out)⟩
  · replace c6 := Bool.eq_false_iff.mpr c6
    subst c6
    have H1 : (some ([] : List Int)) = some r := by rw [if_neg (show ¬ (false = true) by decide)] at H; exact H
    clear H
    have H := H1
    clear H1
    obtain rfl := Option.some.inj H
    go_enter Try.func33, Try.ntmps33
    try go_wp2_with (first | ((with_reducible refine gate_dst (N := 4) rfl ?_); refine box_event ?hg (N := 4) ?hd (cs := #[.slice A0_0 l0_0.length c0_0, .slice A0_1 l0_1.length c0_1]) (t := 41) ?hr ?_; (case hd => rfl); (case hg => rfl); (case hr => first | (go_simp; done) | (go_simp; rfl)); intro gb218 hg w53 hbox hb; have n0_ := Aside0.mk (below_step (by repeat (first | (with_reducible first | exact HB.out | apply below_alloc | apply pw_below_drewN | apply below_drew1) | exact HB.out)) hb); have n1_ := Aside0.mk (hbox); have n2_ := Aside0.mk ((by rw [hg]; exact (below_size (by repeat (first | (with_reducible first | exact HB.out | apply below_alloc | apply pw_below_drewN | apply below_drew1) | exact HB.out))) : w.heap.size ≤ gb218)); have n3_ := Aside0.mk ((by rw [hg]; exact (below_size (by repeat (first | (with_reducible first | exact HB.out | apply below_alloc | apply pw_below_drewN | apply below_drew1) | exact HB.out))) : w.heap.size ≤ gb218)); clear HB; have HB := n0_; have BK218 := n1_; have GW218 := n2_; have GE218 := n3_; clear n0_ n1_ n2_ n3_; clear hb hbox hg) | ((with_reducible refine gate_dst (N := 5) rfl ?_); refine box_event ?hg (N := 5) ?hd (cs := #[.int .i64 a1_0, .int .i64 a1_1]) (t := 54) ?hr ?_; (case hd => rfl); (case hg => rfl); (case hr => first | (go_simp; done) | (go_simp; rfl)); intro gb219 hg w54 hbox hb; have n0_ := Aside0.mk (blk_below (g := gb218) (o := .cells #[.slice A0_0 l0_0.length c0_0, .slice A0_1 l0_1.length c0_1] 41 (0, 0)) (by (with_reducible repeat (first | refine blk_drewN ?_ _ | refine blk_drew ?_ | refine blk_alloc ?_ _)); exact BK218.out) hb); have n1_ := Aside0.mk (below_step (by repeat (first | (with_reducible first | exact HB.out | apply below_alloc | apply pw_below_drewN | apply below_drew1 | refine below_set ?_ GE218.out) | exact HB.out)) hb); have n2_ := Aside0.mk (hbox); have n3_ := Aside0.mk ((by rw [hg]; exact (below_size (by repeat (first | (with_reducible first | exact HB.out | apply below_alloc | apply pw_below_drewN | apply below_drew1 | refine below_set ?_ GE218.out) | exact HB.out))) : w.heap.size ≤ gb219)); have n4_ := Aside0.mk ((by rw [hg]; exact (below_size (by repeat (first | (with_reducible first | exact HB.out | apply below_alloc | apply pw_below_drewN | apply below_drew1 | refine below_set ?_ GE218.out) | exact HB.out))) : w.heap.size ≤ gb219)); have n5_ := Aside0.mk ((by rw [hg]; exact Nat.ne_of_lt (blk_lt (g := gb218) (o := .cells #[.slice A0_0 l0_0.length c0_0, .slice A0_1 l0_1.length c0_1] 41 (0, 0)) (by (with_reducible repeat (first | refine blk_drewN ?_ _ | refine blk_drew ?_ | refine blk_alloc ?_ _)); exact BK218.out)) : gb218 ≠ gb219)); have n6_ := Aside0.mk ((by rw [hg]; exact Nat.ne_of_gt (blk_lt (g := gb218) (o := .cells #[.slice A0_0 l0_0.length c0_0, .slice A0_1 l0_1.length c0_1] 41 (0, 0)) (by (with_reducible repeat (first | refine blk_drewN ?_ _ | refine blk_drew ?_ | refine blk_alloc ?_ _)); exact BK218.out)) : gb219 ≠ gb218)); clear BK218; clear HB; have BK218 := n0_; have HB := n1_; have BK219 := n2_; have GW219 := n3_; have GE219 := n4_; have NB218_219 := n5_; have NB219_218 := n6_; clear n0_ n1_ n2_ n3_ n4_ n5_ n6_; clear hb hbox hg))
    have n0_ := Aside0.mk (blk_drew BK218.out)
    have n1_ := Aside0.mk (blk_drew BK219.out)
    have n2_ := Aside0.mk (below_drew1 HB.out)
    clear BK218
    clear BK219
    clear HB
    have BK218 := n0_
    have BK219 := n1_
    have HB := n2_
    clear n0_ n1_ n2_
    refine start_ (n := 23) (S := fun w' => w'.cell? ⟨gb219, 0, none⟩ = some (.int .i64 a1_0) ∧ w'.cell? ⟨gb219, 1, none⟩ = some (.int .i64 a1_1)) (ds := []) #[false, false, false, false, false, false, false, false, false, false, false, false, false, false, false, false, false, false, false, false, false, false, false] (by kernel_rfl) rfl rfl ⟨(blk_cell BK219.out 0).trans rfl, (blk_cell BK219.out 1).trans rfl⟩ (fun hHeld => ?_); refine with_tabW impl_AreaBytes.tab1 impl_AreaBytes.bits1 (fun HT_ HW_ => ?_)
    generalize w54.drew = w55 at BK218 BK219 HB hHeld ⊢
    refine take_ (i := 0) (N := some 9) (v := ?_) (a' := ?_) #[true, false, false, false, false, false, false, false, false, false, false, false, false, false, false, false, false, false, false, false, false, false, false] rfl rfl (take_ofW HT_.out HW_.out (by kernel_rfl)) (fun _ _ _ h => h) (Or.inl ⟨by rfl, ?_⟩) hHeld ?_ ?_
    rotate_left
    · rintro w' ⟨s0, s1⟩
      go_simp
      with_reducible rfl
    rotate_left
    · simp only [Act.put, List.setIfInBounds_toArray, List.set_cons_zero, List.set_cons_succ, i64_w, i32_w]
      rfl
    refine one_ (i := 1) (N := some 10) #[true, true, false, false, false, false, false, false, false, false, false, false, false, false, false, false, false, false, false, false, false, false, false] rfl rfl (one_of HT_.out (by kernel_rfl)) (by decide) (fun K hK => ?_)
    refine goes_ Try.func72 (by kernel_rfl) rfl #[.agg #[.int .i64 a1_0, .int .i64 a1_1]] (by rfl) rfl rfl (by (try simp only [List.map_toArray, List.map_cons, List.map_nil]); first | done | rfl | (simp only [List.length_drop, List.length_take]; rfl)) ?_
    with_reducible refine (impl_Config_valid.calls a1_0 a1_1 false _ A5.out).mono ?_
    rintro e w56 ⟨rfl, hb⟩
    refine ⟨_, rfl, ?_⟩
    have n0_ := Aside0.mk (blk_below (g := gb218) (o := .cells #[.slice A0_0 l0_0.length c0_0, .slice A0_1 l0_1.length c0_1] 41 (0, 0)) (by (with_reducible repeat (first | refine blk_drewN ?_ _ | refine blk_drew ?_ | refine blk_alloc ?_ _)); exact BK218.out) hb)
    have n1_ := Aside0.mk (blk_below (g := gb219) (o := .cells #[.int .i64 a1_0, .int .i64 a1_1] 54 (0, 0)) (by (with_reducible repeat (first | refine blk_drewN ?_ _ | refine blk_drew ?_ | refine blk_alloc ?_ _)); exact BK219.out) hb)
    have n2_ := Aside0.mk (below_step (by repeat (first | (with_reducible first | exact HB.out | apply below_alloc | apply pw_below_drewN | apply below_drew1 | refine below_set ?_ GE218.out | refine below_set ?_ GE219.out) | exact HB.out)) hb)
    clear BK218
    clear BK219
    clear HB
    have BK218 := n0_
    have BK219 := n1_
    have HB := n2_
    clear n0_ n1_ n2_
    (try clear hb)
    (try clear hb2)
    (try clear hk)
    (try clear hi)
    refine hK.out _ _ ⟨(blk_cell BK219.out 0).trans rfl, (blk_cell BK219.out 1).trans rfl⟩ (fun hHeld => ?_)
    clear hK K
    refine norm_ (a' := ?_) ?_ ?_
    rotate_left
    · show Act.put _ (some 10) _ = _
      simp only [Act.put, List.setIfInBounds_toArray, List.set_cons_zero, List.set_cons_succ, i64_w, i32_w]
      rfl
    refine pure_ (i := 2) (N := some 11) (v := ?_) (a' := ?_) #[true, true, true, false, false, false, false, false, false, false, false, false, false, false, false, false, false, false, false, false, false, false, false] rfl rfl (any_of HT_.out (by kernel_rfl)) (fun _ _ _ h => h) (Or.inl ⟨by rfl, ?_⟩) ?_ ?_
    rotate_left
    · intro w'
      go_simp
      with_reducible rfl
    rotate_left
    · simp only [Act.put, List.setIfInBounds_toArray, List.set_cons_zero, List.set_cons_succ, i64_w, i32_w]
      rfl
    refine pure_ (i := 3) (N := some 12) (v := ?_) (a' := ?_) #[true, true, true, true, false, false, false, false, false, false, false, false, false, false, false, false, false, false, false, false, false, false, false] rfl rfl (any_of HT_.out (by kernel_rfl)) (fun _ _ _ h => h) (Or.inl ⟨by rfl, ?_⟩) ?_ ?_
    rotate_left
    · intro w'
      go_simp
      with_reducible rfl
    rotate_left
    · simp only [Act.put, List.setIfInBounds_toArray, List.set_cons_zero, List.set_cons_succ, i64_w, i32_w]
      rfl
    refine pure_ (i := 4) (N := some 13) (v := undef) (a' := ?_) #[true, true, true, true, true, false, false, false, false, false, false, false, false, false, false, false, false, false, false, false, false, false, false] rfl rfl (any_of HT_.out (by kernel_rfl)) (fun _ _ _ h => h) (Or.inr ⟨by rfl, rfl⟩) ?_ ?_
    rotate_left
    · simp only [Act.put, List.setIfInBounds_toArray, List.set_cons_zero, List.set_cons_succ, i64_w, i32_w]
      rfl
    refine pure_ (i := 5) (N := some 14) (v := undef) (a' := ?_) #[true, true, true, true, true, true, false, false, false, false, false, false, false, false, false, false, false, false, false, false, false, false, false] rfl rfl (any_of HT_.out (by kernel_rfl)) (fun _ _ _ h => h) (Or.inr ⟨by rfl, rfl⟩) ?_ ?_
    rotate_left
    · simp only [Act.put, List.setIfInBounds_toArray, List.set_cons_zero, List.set_cons_succ, i64_w, i32_w]
      rfl
    refine pure_ (i := 6) (N := some 15) (v := undef) (a' := ?_) #[true, true, true, true, true, true, true, false, false, false, false, false, false, false, false, false, false, false, false, false, false, false, false] rfl rfl (any_of HT_.out (by kernel_rfl)) (fun _ _ _ h => h) (Or.inr ⟨by rfl, rfl⟩) ?_ ?_
    rotate_left
    · simp only [Act.put, List.setIfInBounds_toArray, List.set_cons_zero, List.set_cons_succ, i64_w, i32_w]
      rfl
    refine pure_ (i := 7) (N := some 16) (v := ?_) (a' := ?_) #[true, true, true, true, true, true, true, true, false, false, false, false, false, false, false, false, false, false, false, false, false, false, false] rfl rfl (any_of HT_.out (by kernel_rfl)) (fun _ _ _ h => h) (Or.inl ⟨by rfl, ?_⟩) ?_ ?_
    rotate_left
    · intro w'
      go_simp
      with_reducible rfl
    rotate_left
    · simp only [Act.put, List.setIfInBounds_toArray, List.set_cons_zero, List.set_cons_succ, i64_w, i32_w]
      rfl
    refine pure_ (i := 8) (N := some 17) (v := ?_) (a' := ?_) #[true, true, true, true, true, true, true, true, true, false, false, false, false, false, false, false, false, false, false, false, false, false, false] rfl rfl (any_of HT_.out (by kernel_rfl)) (fun _ _ _ h => h) (Or.inl ⟨by rfl, ?_⟩) ?_ ?_
    rotate_left
    · intro w'
      go_simp
      with_reducible rfl
    rotate_left
    · simp only [Act.put, List.setIfInBounds_toArray, List.set_cons_zero, List.set_cons_succ, i64_w, i32_w]
      rfl
    refine pure_ (i := 9) (N := some 18) (v := undef) (a' := ?_) #[true, true, true, true, true, true, true, true, true, true, false, false, false, false, false, false, false, false, false, false, false, false, false] rfl rfl (any_of HT_.out (by kernel_rfl)) (fun _ _ _ h => h) (Or.inr ⟨by rfl, rfl⟩) ?_ ?_
    rotate_left
    · simp only [Act.put, List.setIfInBounds_toArray, List.set_cons_zero, List.set_cons_succ, i64_w, i32_w]
      rfl
    refine pure_ (i := 10) (N := some 19) (v := undef) (a' := ?_) #[true, true, true, true, true, true, true, true, true, true, true, false, false, false, false, false, false, false, false, false, false, false, false] rfl rfl (any_of HT_.out (by kernel_rfl)) (fun _ _ _ h => h) (Or.inr ⟨by rfl, rfl⟩) ?_ ?_
    rotate_left
    · simp only [Act.put, List.setIfInBounds_toArray, List.set_cons_zero, List.set_cons_succ, i64_w, i32_w]
      rfl
    refine pure_ (i := 11) (N := some 20) (v := undef) (a' := ?_) #[true, true, true, true, true, true, true, true, true, true, true, true, false, false, false, false, false, false, false, false, false, false, false] rfl rfl (any_of HT_.out (by kernel_rfl)) (fun _ _ _ h => h) (Or.inr ⟨by rfl, rfl⟩) ?_ ?_
    rotate_left
    · simp only [Act.put, List.setIfInBounds_toArray, List.set_cons_zero, List.set_cons_succ, i64_w, i32_w]
      rfl
    refine pure_ (i := 12) (N := some 21) (v := undef) (a' := ?_) #[true, true, true, true, true, true, true, true, true, true, true, true, true, false, false, false, false, false, false, false, false, false, false] rfl rfl (any_of HT_.out (by kernel_rfl)) (fun _ _ _ h => h) (Or.inr ⟨by rfl, rfl⟩) ?_ ?_
    rotate_left
    · simp only [Act.put, List.setIfInBounds_toArray, List.set_cons_zero, List.set_cons_succ, i64_w, i32_w]
      rfl
    refine pure_ (i := 13) (N := some 22) (v := undef) (a' := ?_) #[true, true, true, true, true, true, true, true, true, true, true, true, true, true, false, false, false, false, false, false, false, false, false] rfl rfl (any_of HT_.out (by kernel_rfl)) (fun _ _ _ h => h) (Or.inr ⟨by rfl, rfl⟩) ?_ ?_
    rotate_left
    · simp only [Act.put, List.setIfInBounds_toArray, List.set_cons_zero, List.set_cons_succ, i64_w, i32_w]
      rfl
    refine pure_ (i := 14) (N := some 23) (v := ?_) (a' := ?_) #[true, true, true, true, true, true, true, true, true, true, true, true, true, true, true, false, false, false, false, false, false, false, false] rfl rfl (any_of HT_.out (by kernel_rfl)) (fun _ _ _ h => h) (Or.inl ⟨by rfl, ?_⟩) ?_ ?_
    rotate_left
    · intro w'
      go_simp
      with_reducible rfl
    rotate_left
    · simp only [Act.put, List.setIfInBounds_toArray, List.set_cons_zero, List.set_cons_succ, i64_w, i32_w]
      rfl
    refine pure_ (i := 15) (N := some 24) (v := ?_) (a' := ?_) #[true, true, true, true, true, true, true, true, true, true, true, true, true, true, true, true, false, false, false, false, false, false, false] rfl rfl (any_of HT_.out (by kernel_rfl)) (fun _ _ _ h => h) (Or.inl ⟨by rfl, ?_⟩) ?_ ?_
    rotate_left
    · intro w'
      go_simp
      with_reducible rfl
    rotate_left
    · simp only [Act.put, List.setIfInBounds_toArray, List.set_cons_zero, List.set_cons_succ, i64_w, i32_w]
      rfl
    refine pure_ (i := 16) (N := some 25) (v := undef) (a' := ?_) #[true, true, true, true, true, true, true, true, true, true, true, true, true, true, true, true, true, false, false, false, false, false, false] rfl rfl (any_of HT_.out (by kernel_rfl)) (fun _ _ _ h => h) (Or.inr ⟨by rfl, rfl⟩) ?_ ?_
    rotate_left
    · simp only [Act.put, List.setIfInBounds_toArray, List.set_cons_zero, List.set_cons_succ, i64_w, i32_w]
      rfl
    refine pure_ (i := 17) (N := some 26) (v := undef) (a' := ?_) #[true, true, true, true, true, true, true, true, true, true, true, true, true, true, true, true, true, true, false, false, false, false, false] rfl rfl (any_of HT_.out (by kernel_rfl)) (fun _ _ _ h => h) (Or.inr ⟨by rfl, rfl⟩) ?_ ?_
    rotate_left
    · simp only [Act.put, List.setIfInBounds_toArray, List.set_cons_zero, List.set_cons_succ, i64_w, i32_w]
      rfl
    refine pure_ (i := 18) (N := some 27) (v := undef) (a' := ?_) #[true, true, true, true, true, true, true, true, true, true, true, true, true, true, true, true, true, true, true, false, false, false, false] rfl rfl (any_of HT_.out (by kernel_rfl)) (fun _ _ _ h => h) (Or.inr ⟨by rfl, rfl⟩) ?_ ?_
    rotate_left
    · simp only [Act.put, List.setIfInBounds_toArray, List.set_cons_zero, List.set_cons_succ, i64_w, i32_w]
      rfl
    refine pure_ (i := 19) (N := some 28) (v := undef) (a' := ?_) #[true, true, true, true, true, true, true, true, true, true, true, true, true, true, true, true, true, true, true, true, false, false, false] rfl rfl (any_of HT_.out (by kernel_rfl)) (fun _ _ _ h => h) (Or.inr ⟨by rfl, rfl⟩) ?_ ?_
    rotate_left
    · simp only [Act.put, List.setIfInBounds_toArray, List.set_cons_zero, List.set_cons_succ, i64_w, i32_w]
      rfl
    refine pure_ (i := 20) (N := some 29) (v := undef) (a' := ?_) #[true, true, true, true, true, true, true, true, true, true, true, true, true, true, true, true, true, true, true, true, true, false, false] rfl rfl (any_of HT_.out (by kernel_rfl)) (fun _ _ _ h => h) (Or.inr ⟨by rfl, rfl⟩) ?_ ?_
    rotate_left
    · simp only [Act.put, List.setIfInBounds_toArray, List.set_cons_zero, List.set_cons_succ, i64_w, i32_w]
      rfl
    refine pure_ (i := 21) (N := some 30) (v := undef) (a' := ?_) #[true, true, true, true, true, true, true, true, true, true, true, true, true, true, true, true, true, true, true, true, true, true, false] rfl rfl (any_of HT_.out (by kernel_rfl)) (fun _ _ _ h => h) (Or.inr ⟨by rfl, rfl⟩) ?_ ?_
    rotate_left
    · simp only [Act.put, List.setIfInBounds_toArray, List.set_cons_zero, List.set_cons_succ, i64_w, i32_w]
      rfl
    refine pure_ (i := 22) (N := some 31) (v := ?_) (a' := ?_) #[true, true, true, true, true, true, true, true, true, true, true, true, true, true, true, true, true, true, true, true, true, true, true] rfl rfl (any_of HT_.out (by kernel_rfl)) (fun _ _ _ h => h) (Or.inl ⟨by rfl, ?_⟩) ?_ ?_
    rotate_left
    · intro w'
      go_simp
      with_reducible rfl
    rotate_left
    · simp only [Act.put, List.setIfInBounds_toArray, List.set_cons_zero, List.set_cons_succ, i64_w, i32_w]
      rfl
    refine done_ (done_of HT_.out (by kernel_rfl)) ?_
    try go_wp2
    go_ret
    exact ⟨_, by first | rfl | (simp [errW_none, errW_some] <;> rfl) | (simp [*, errW_none, errW_some] <;> rfl), by first | exact Kd.R_nil _ _ _ _ _ | exact Kd.N_nil _ _ _ _ _ | exact Kd.V_nil _ _ _ _ _ | exact Kd.Q_nil _ _ _ _ _ | exact Kd.S_nil _ _ _ _ _, by repeat (first | (with_reducible first | exact HB.out | apply below_alloc | apply pw_below_drewN | apply below_drew1 | refine below_set ?_ GE218.out | refine below_set ?_ GE219.out) | exact HB.out)⟩

end Go.Proofs.Ytlpjpmfhkmddjaa.GFnExactAreaBytes
