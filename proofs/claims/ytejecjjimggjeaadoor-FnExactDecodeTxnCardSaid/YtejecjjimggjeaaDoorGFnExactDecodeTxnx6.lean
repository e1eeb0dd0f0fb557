/- Written by give.py, a program of this session, that runs the kit's print and lays contracts proved by hand beside it. -/
import Derived.Test.YtejecjjimggjeaaDoorGFnExactDecodeTxnx0
import Derived.Test.YtejecjjimggjeaaDoorGFnExactDecodeTxnx2
import Derived.Test.YtejecjjimggjeaaDoorGFnExactDecodeTxnx5
namespace Go.Proofs.YtejecjjimggjeaaDoor.GFnExactDecodeTxn
open Go.RowKit Go.Proofs.YtejecjjimggjeaaDoorW.PrintWords Go.Proofs.YtejecjjimggjeaaDoorW.PrintLast Go.Proofs.YtejecjjimggjeaaDoorW.PrintMore
attribute [local go_sem] max2_int min2_int max_two min_two max_three min_three max_four min_four
attribute [local go_sem high] Go.Proofs.YtejecjjimggjeaaDoorH.str_leq Go.Proofs.YtejecjjimggjeaaDoorH.str_geq Go.Proofs.YtejecjjimggjeaaDoorH.str_gtr   -- for this text's walks alone
set_option linter.unusedVariables false
set_option linter.unusedSimpArgs false

mutual
def spec_DecodeTxn.l0 : Nat → List Int → Int → Int → Int → Int → List (S55) → Option (Bool × Int × (List (S55)))
 | 0, _, _, _, _, _, _ => none
 | k + 1, x0, x4, x5, x6, x156000, x156001 => if x6 < x4 then (if x5 ≥ (x0.length : Int) then (some (false, 0, ([] : List (S55)))) else (if 0 ≤ x5 then (if x5 < (x0.length : Int) then (if (rd x0 x5) = 1 then ((spec_l4ReadNode.f k x0 (wrap64 (x5 + 1))).bind fun bt161 => (spec_DecodeTxn.j1 k x0 x4 x5 x6 bt161.2.2.2.2.2.2.2 x156000 x156001 false bt161.1 bt161.2.1 bt161.2.2.1 bt161.2.2.2.1 bt161.2.2.2.2.1 bt161.2.2.2.2.2.1 bt161.2.2.2.2.2.2.1)) else (spec_DecodeTxn.j1 k x0 x4 x5 x6 (-1) x156000 x156001 false (⟨#[]⟩ : ByteArray) (⟨#[]⟩ : ByteArray) 0 0 0 0 0)) else (none)) else (none))) else (if x5 = (x0.length : Int) then ((spec_ValidTxn.f k x156000 x156001).bind fun t158 => (if t158 = true then (some (true, x156000, x156001)) else (some (false, 0, ([] : List (S55)))))) else (some (false, 0, ([] : List (S55)))))
def spec_DecodeTxn.j1 : Nat → List Int → Int → Int → Int → Int → Int → List (S55) → Bool → ByteArray → ByteArray → Int → Int → Int → Int → Int → Option (Bool × Int × (List (S55)))
 | 0, _, _, _, _, _, _, _, _, _, _, _, _, _, _, _ => none
 | k + 1, x0, x4, x5, x6, x8, x156000, x156001, x160000, x160001, x160002, x160003, x160004, x160005, x160006, x160007 => if 0 ≤ x5 then (if x5 < (x0.length : Int) then (if (rd x0 x5) = 2 then ((spec_l4ReadText.f x0 (wrap64 (x5 + 1))).bind fun bt171 => (if bt171.2 < 0 then (some (false, 0, ([] : List (S55)))) else (if x156001.length < 1759218604441 then (spec_DecodeTxn.l0 k x0 x4 bt171.2 (wrap64 (x6 + 1)) x156000 (x156001 ++ [(⟨true, (⟨bt171.1, (⟨#[]⟩ : ByteArray), 0, 0, 0, 0, 0⟩ : S53)⟩ : S55)])) else (none)))) else (if x8 < 0 then (some (false, 0, ([] : List (S55)))) else (if x156001.length < 1759218604441 then (spec_DecodeTxn.l0 k x0 x4 x8 (wrap64 (x6 + 1)) x156000 (x156001 ++ [(⟨x160000, (⟨x160001, x160002, x160003, x160004, x160005, x160006, x160007⟩ : S53)⟩ : S55)])) else (none)))) else (none)) else (none)
end
def spec_DecodeTxn.f (k : Nat) (l0 : List Int) : Option (Bool × Int × (List (S55))) := if (l0.length : Int) < 6 then (some (false, 0, ([] : List (S55)))) else (if 4 ≤ (l0.length : Int) then ((spec_l4Number.f k (l0.take 4)).bind fun t154 => (if 4 ≤ 6 then (if 6 ≤ (l0.length : Int) then ((spec_l4Number.f k ((l0.take 6).drop 4)).bind fun t157 => (spec_DecodeTxn.l0 k l0 t157 6 0 t154 ([] : List (S55)))) else (none)) else (none))) else (none))
theorem spec_DecodeTxn.mono_l : ∀ k, (∀ y0 y1 y2 y3 y4 y5, LeO (spec_DecodeTxn.l0 k y0 y1 y2 y3 y4 y5) (spec_DecodeTxn.l0 (k + 1) y0 y1 y2 y3 y4 y5)) ∧ (∀ y0 y1 y2 y3 y4 y5 y6 y7 y8 y9 y10 y11 y12 y13 y14, LeO (spec_DecodeTxn.j1 k y0 y1 y2 y3 y4 y5 y6 y7 y8 y9 y10 y11 y12 y13 y14) (spec_DecodeTxn.j1 (k + 1) y0 y1 y2 y3 y4 y5 y6 y7 y8 y9 y10 y11 y12 y13 y14))
 | 0 => ⟨fun _ _ _ _ _ _ r h => by simp [spec_DecodeTxn.l0] at h, fun _ _ _ _ _ _ _ _ _ _ _ _ _ _ _ r h => by simp [spec_DecodeTxn.j1] at h⟩
 | k + 1 => by
  obtain ⟨ih0, ih1⟩ := spec_DecodeTxn.mono_l k
  refine ⟨?_, ?_⟩
  ·intro y0 y1 y2 y3 y4 y5
   unfold spec_DecodeTxn.l0
   repeat' first
   | (with_reducible exact ih0 _ _ _ _ _ _)
   | (with_reducible exact ih1 _ _ _ _ _ _ _ _ _ _ _ _ _ _ _)
   | (with_reducible exact spec_ValidTxn.mono _ _ _)
   | (with_reducible exact spec_l4Number.mono _ _)
   | (with_reducible exact spec_l4ReadNode.mono _ _ _)
   | (with_reducible exact LeO.refl _)
   | (with_reducible exact LeO.none _)
   | (with_reducible refine LeO.ite ?_ ?_)
   | (with_reducible refine LeO.bind ?_ (fun _ => ?_))
   | exact ih0 _ _ _ _ _ _
   | exact ih1 _ _ _ _ _ _ _ _ _ _ _ _ _ _ _
   | exact spec_ValidTxn.mono _ _ _
   | exact spec_l4Number.mono _ _
   | exact spec_l4ReadNode.mono _ _ _
   | exact LeO.none _
   | refine LeO.ite ?_ ?_
   | refine LeO.bind ?_ (fun _ => ?_)
  ·intro y0 y1 y2 y3 y4 y5 y6 y7 y8 y9 y10 y11 y12 y13 y14
   unfold spec_DecodeTxn.j1
   repeat' first
   | (with_reducible exact ih0 _ _ _ _ _ _)
   | (with_reducible exact ih1 _ _ _ _ _ _ _ _ _ _ _ _ _ _ _)
   | (with_reducible exact spec_ValidTxn.mono _ _ _)
   | (with_reducible exact spec_l4Number.mono _ _)
   | (with_reducible exact spec_l4ReadNode.mono _ _ _)
   | (with_reducible exact LeO.refl _)
   | (with_reducible exact LeO.none _)
   | (with_reducible refine LeO.ite ?_ ?_)
   | (with_reducible refine LeO.bind ?_ (fun _ => ?_))
   | exact ih0 _ _ _ _ _ _
   | exact ih1 _ _ _ _ _ _ _ _ _ _ _ _ _ _ _
   | exact spec_ValidTxn.mono _ _ _
   | exact spec_l4Number.mono _ _
   | exact spec_l4ReadNode.mono _ _ _
   | exact LeO.none _
   | refine LeO.ite ?_ ?_
   | refine LeO.bind ?_ (fun _ => ?_)
theorem spec_DecodeTxn.mono : ∀ a0 k, LeO (spec_DecodeTxn.f k a0) (spec_DecodeTxn.f (k + 1) a0) := by
 intro a0 k
 obtain ⟨ih0, ih1⟩ := spec_DecodeTxn.mono_l k
 unfold spec_DecodeTxn.f
 repeat' first
   | (with_reducible exact ih0 _ _ _ _ _ _)
   | (with_reducible exact ih1 _ _ _ _ _ _ _ _ _ _ _ _ _ _ _)
   | (with_reducible exact spec_ValidTxn.mono _ _ _)
   | (with_reducible exact spec_l4Number.mono _ _)
   | (with_reducible exact spec_l4ReadNode.mono _ _ _)
   | (with_reducible exact LeO.refl _)
   | (with_reducible exact LeO.none _)
   | (with_reducible refine LeO.ite ?_ ?_)
   | (with_reducible refine LeO.bind ?_ (fun _ => ?_))
   | exact ih0 _ _ _ _ _ _
   | exact ih1 _ _ _ _ _ _ _ _ _ _ _ _ _ _ _
   | exact spec_ValidTxn.mono _ _ _
   | exact spec_l4Number.mono _ _
   | exact spec_l4ReadNode.mono _ _ _
   | exact LeO.none _
   | refine LeO.ite ?_ ?_
   | refine LeO.bind ?_ (fun _ => ?_)
set_option maxHeartbeats 8000000 in
set_option maxRecDepth 100000 in
theorem spec_DecodeTxn.calls (k : Nat) (A0 : Option Addr) (c0 : Nat) (l0 : List Int) (r1 : Bool) (r2 : Int) (r3 : List (S55)) (w : World) (hr0 : Kd.C (Kd.int .u8) w A0 l0.length l0) (hc0 : l0.length ≤ c0) (h : spec_DecodeTxn.f k l0 = some (r1, r2, r3)) :
  Calls Tryd.prog 6 #[.slice A0 l0.length c0] w fun e w' => ∃ v2_ : Value, e = .returned (.agg #[.bool r1, .int .i64 r2, v2_]) ∧ Kd.R k55 55 w' w.heap.size (fun _ => True) v2_ r3 ∧ Below w.heap.size w w' := by
 have hu27 := Tryd.underlying27
 have hu25 := Tryd.underlying25
 have hu55 := Tryd.underlying55
 have hu53 := Tryd.underlying53
 have HR0 := Aside0.mk hr0
 have HC0 := Aside0.mk hc0
 clear hr0 hc0
 have HB := Aside0.mk (Below.refl w.heap.size w)
 have H : (if (l0.length : Int) < 6 then (some (false, 0, ([] : List (S55)))) else (if 4 ≤ (l0.length : Int) then ((spec_l4Number.f k (l0.take 4)).bind fun t154 => (if 4 ≤ 6 then (if 6 ≤ (l0.length : Int) then ((spec_l4Number.f k ((l0.take 6).drop 4)).bind fun t157 => (spec_DecodeTxn.l0 k l0 t157 6 0 t154 ([] : List (S55)))) else (none)) else (none))) else (none))) = some (r1, r2, r3) := h
 clear h
 by_cases c2 : (l0.length : Int) < 6
 ·rw [if_pos c2] at H
  have c2b0 : decide ((l0.length : Int) < 6) = true := decide_eq_true c2
  have c2b1 : decide (l0.length < 6) = true := decide_eq_true (by omega)
  clear c2
  simp only [Option.some.injEq, Prod.mk.injEq] at H
  obtain ⟨rfl, rfl, rfl⟩ := H
  go_enter Tryd.func6, Tryd.ntmps6
  go_wp2_with (first | ((with_reducible refine zw (N := 2) rfl ?_); refine zx ?hg (N := 2) ?hd (cs := #[.bool false, .int .i64 0, .slice none 0 0]) (t := 27) ?hr ?_; (case hd => rfl); (case hg => rfl); (case hr => first | (go_simp; done) | (go_simp; rfl)); intro zH hg w3 hbox hb; have n0_ := Aside0.mk (zm (by repeat (first | (with_reducible first | exact HB.out | apply zf | apply zc | apply ze) | exact HB.out)) hb); have n1_ := Aside0.mk (hbox); have n2_ := Aside0.mk ((by rw [hg]; exact (zl (by repeat (first | (with_reducible first | exact HB.out | apply zf | apply zc | apply ze) | exact HB.out))) : w.heap.size ≤ zH)); have n3_ := Aside0.mk ((by rw [hg]; exact (zl (by repeat (first | (with_reducible first | exact HB.out | apply zf | apply zc | apply ze) | exact HB.out))) : w.heap.size ≤ zH)); clear HB; have HB := n0_; have zC := n1_; have GW152 := n2_; have zJ := n3_; clear n0_ n1_ n2_ n3_; clear hb hbox hg; have zZ : w3.cell? ⟨zH, 0, none⟩ = some (.bool false) := (zi zC.out 0).trans rfl; have zab : w3.cell? ⟨zH, 1, none⟩ = some (.int .i64 0) := (zi zC.out 1).trans rfl; have zbb : w3.cell? ⟨zH, 2, none⟩ = some (.slice none 0 0) := (zi zC.out 2).trans rfl; have zcb := zd zC.out 0; have zdb := zd zC.out 1; have zeb := zd zC.out 2))
  refine bodyPost_ret (results_cell_row rfl _ _ zH 27 #[.bool false, .int .i64 0, .slice none 0 0] (0, 0) _ rfl (by (with_reducible repeat (first | refine zh ?_ _ | refine zj ?_ | refine zg ?_ _)); refine zq (cs := #[.bool false, .int .i64 0, .slice none 0 0]) ?_ 2 _ rfl; (with_reducible repeat (first | refine zh ?_ _ | refine zj ?_ | refine zg ?_ _)); refine zq (cs := #[.bool false, .int .i64 0, .slice none 0 0]) ?_ 1 _ rfl; (with_reducible repeat (first | refine zh ?_ _ | refine zj ?_ | refine zg ?_ _)); refine zq (cs := #[.bool false, .int .i64 0, .slice none 0 0]) ?_ 0 _ rfl; (with_reducible repeat (first | refine zh ?_ _ | refine zj ?_ | refine zg ?_ _)); exact zC.out) Tryd.underlying27 rfl (by kernel_rfl)) rfl ?_
  exact ⟨_, by first | rfl | (simp [errW_none, errW_some] <;> rfl) | (simp [*, errW_none, errW_some] <;> rfl), by first | exact Kd.R_nil _ _ _ _ _ | exact Kd.N_nil _ _ _ _ _ | exact Kd.V_nil _ _ _ _ _ | exact Kd.Q_nil _ _ _ _ _ | exact Kd.S_nil _ _ _ _ _, by repeat (first | (with_reducible first | exact HB.out | apply zf | apply zc | apply ze | refine zk ?_ zJ.out) | exact HB.out)⟩
 ·rw [if_neg c2] at H
  have c2b0 : decide ((l0.length : Int) < 6) = false := decide_eq_false c2
  have c2b1 : decide (l0.length < 6) = false := decide_eq_false (by omega)
  clear c2
  by_cases c5 : 4 ≤ (l0.length : Int)
  ·rw [if_pos c5] at H
   have c5b0 := eq_true c5
   have c5b1 : decide (4 ≤ (l0.length : Int)) = true := decide_eq_true c5
   clear c5
   replace H := Option.bind_eq_some_iff.mp H
   obtain ⟨t154, A60, H⟩ := H
   replace H : (if 4 ≤ 6 then (if 6 ≤ (l0.length : Int) then ((spec_l4Number.f k ((l0.take 6).drop 4)).bind fun t157 => (spec_DecodeTxn.l0 k l0 t157 6 0 t154 ([] : List (S55)))) else (none)) else (none)) = some (r1, r2, r3) := H
   have A6 := Aside0.mk A60
   clear A60
   by_cases c7 : 4 ≤ 6
   ·rw [if_pos c7] at H
    have c7b0 := eq_true c7
    have c7b1 : decide (4 ≤ 6) = true := decide_eq_true c7
    clear c7
    by_cases c8 : 6 ≤ (l0.length : Int)
    ·rw [if_pos c8] at H
     have c8b0 := eq_true c8
     have c8b1 : decide (6 ≤ (l0.length : Int)) = true := decide_eq_true c8
     clear c8
     replace H := Option.bind_eq_some_iff.mp H
     obtain ⟨t157, A90, H⟩ := H
     replace H : (spec_DecodeTxn.l0 k l0 t157 6 0 t154 ([] : List (S55))) = some (r1, r2, r3) := H
     have A9 := Aside0.mk A90
     clear A90
     have H' := Aside0.mk H
     clear H
     go_enter Tryd.func6, Tryd.ntmps6
     go_wp2_with (first | ((with_reducible refine zw (N := 2) rfl ?_); refine zx ?hg (N := 2) ?hd (cs := #[.bool false, .int .i64 0, .slice none 0 0]) (t := 27) ?hr ?_; (case hd => rfl); (case hg => rfl); (case hr => first | (go_simp; done) | (go_simp; rfl)); intro zH hg w10 hbox hb; have n0_ := Aside0.mk (zm (by repeat (first | (with_reducible first | exact HB.out | apply zf | apply zc | apply ze) | exact HB.out)) hb); have n1_ := Aside0.mk (hbox); have n2_ := Aside0.mk ((by rw [hg]; exact (zl (by repeat (first | (with_reducible first | exact HB.out | apply zf | apply zc | apply ze) | exact HB.out))) : w.heap.size ≤ zH)); have n3_ := Aside0.mk ((by rw [hg]; exact (zl (by repeat (first | (with_reducible first | exact HB.out | apply zf | apply zc | apply ze) | exact HB.out))) : w.heap.size ≤ zH)); clear HB; have HB := n0_; have zC := n1_; have GW152 := n2_; have zJ := n3_; clear n0_ n1_ n2_ n3_; clear hb hbox hg; obtain ⟨i011, hi011, _, hsz11, _⟩ := info_parts info5; obtain ⟨hcut11, hA11, hC11⟩ := print_take_of (P := Tryd.prog) (Value.int .u8) 0 22 5 .i64 Tryd.underlying22 hi011 hsz11 A0 c0 l0 4 (by omega) (of_decide_eq_true (by first | (with_reducible assumption) | assumption)) HC0.out; have HR153 := Aside0.mk (Kd.C_of_reads (h1 := fun _ => rfl) (hA11 _ (Kd.reads_of_C HR0.out))); have HC153 := Aside0.mk hC11; clear hA11 hC11 hi011 hsz11) | ((with_reducible refine zn (f := 26) rfl ?_); refine zz (some 19) rfl rfl Tryd.func26 (by kernel_rfl) rfl #[.slice A0 (l0.take 4).length c0] rfl (by (try simp only [List.map_toArray, List.map_cons, List.map_nil]); first | done | (rw [show (l0.take 4).length = 4 from (by rw [List.length_take]; have h_ : (4 : Int) ≤ (l0.length : Int) := of_decide_eq_true (by first | (with_reducible assumption) | assumption); omega)] <;> rfl) | rfl | (simp only [List.length_drop, List.length_take]; rfl)) ?_; (with_reducible refine (spec_l4Number.calls k _ _ (l0.take 4) t154 _ ?side1 ?side2 A6.out).mono ?_); (case side1 => repeat (first | exact (Kd.C_below HR153.out HB.out) | (with_reducible refine Kd.C_alloc ?_ _) | (with_reducible refine Kd.C_drewN ?_ _) | (with_reducible refine Kd.C_drew ?_))); (case side2 => exact HC153.out); rintro e w' ⟨rfl, ⟨nd, rfl⟩⟩; refine ⟨_, rfl, ?_⟩; (try (rw [drewN_self w10]; generalize hq_ : World.drewN w10 _ = w10; have n0_ : Aside0 (w10.heap[zH]? = some (.cells #[.bool false, .int .i64 0, .slice none 0 0] 27 (0, 0))) := ⟨by rw [← hq_]; exact (by (with_reducible repeat (first | refine zh ?_ _ | refine zj ?_ | refine zg ?_ _)); exact zC.out)⟩; have n1_ : Aside0 (Below w.heap.size w w10) := ⟨by rw [← hq_]; exact (by repeat (first | (with_reducible first | exact HB.out | apply zf | apply zc | apply ze | refine zk ?_ zJ.out) | exact HB.out))⟩; clear zC HB hq_; have zC := n0_; have HB := n1_; clear n0_ n1_))) | ((with_reducible refine zw (N := 3) rfl ?_); refine zx ?hg (N := 3) ?hd (cs := #[.int .i64 0, .slice none 0 0]) (t := 25) ?hr ?_; (case hd => rfl); (case hg => rfl); (case hr => first | (go_simp; done) | (go_simp; rfl)); intro zI hg w12 hbox hb; have n0_ := Aside0.mk (zt (g := zH) (o := .cells #[.bool false, .int .i64 0, .slice none 0 0] 27 (0, 0)) (by (with_reducible repeat (first | refine zh ?_ _ | refine zj ?_ | refine zg ?_ _)); exact zC.out) hb); have n1_ := Aside0.mk (zm (by repeat (first | (with_reducible first | exact HB.out | apply zf | apply zc | apply ze | refine zk ?_ zJ.out) | exact HB.out)) hb); have n2_ := Aside0.mk (hbox); have n3_ := Aside0.mk ((by rw [hg]; exact (zl (by repeat (first | (with_reducible first | exact HB.out | apply zf | apply zc | apply ze | refine zk ?_ zJ.out) | exact HB.out))) : w.heap.size ≤ zI)); have n4_ := Aside0.mk ((by rw [hg]; exact (zl (by repeat (first | (with_reducible first | exact HB.out | apply zf | apply zc | apply ze | refine zk ?_ zJ.out) | exact HB.out))) : w.heap.size ≤ zI)); have n5_ := Aside0.mk ((by rw [hg]; exact Nat.ne_of_lt (zy (g := zH) (o := .cells #[.bool false, .int .i64 0, .slice none 0 0] 27 (0, 0)) (by (with_reducible repeat (first | refine zh ?_ _ | refine zj ?_ | refine zg ?_ _)); exact zC.out)) : zH ≠ zI)); have n6_ := Aside0.mk ((by rw [hg]; exact Nat.ne_of_gt (zy (g := zH) (o := .cells #[.bool false, .int .i64 0, .slice none 0 0] 27 (0, 0)) (by (with_reducible repeat (first | refine zh ?_ _ | refine zj ?_ | refine zg ?_ _)); exact zC.out)) : zI ≠ zH)); clear zC; clear HB; have zC := n0_; have HB := n1_; have zF := n2_; have GW155 := n3_; have zK := n4_; have zL := n5_; have zN := n6_; clear n0_ n1_ n2_ n3_ n4_ n5_ n6_; clear hb hbox hg; have zne := zN.out; have zoe := zL.out; have zV : w12.cell? ⟨zI, 0, none⟩ = some (.int .i64 0) := (zi zF.out 0).trans rfl; have zW : w12.cell? ⟨zI, 1, none⟩ = some (.slice none 0 0) := (zi zF.out 1).trans rfl; have zX := zd zF.out 0; have zY := zd zF.out 1; obtain ⟨i015, hi015, _, hsz15, _⟩ := info_parts info5; obtain ⟨A15, hcut15, hA15, hC15⟩ := print_mid_of (P := Tryd.prog) (Value.int .u8) 0 22 5 .i64 .i64 Tryd.underlying22 hi015 hsz15 A0 c0 l0 4 6 (by omega) (by first | omega | exact of_decide_eq_true (by first | (with_reducible assumption) | assumption)) (of_decide_eq_true (by first | (with_reducible assumption) | assumption)) HC0.out; have HR156 := Aside0.mk (Kd.C_of_reads (h1 := fun _ => rfl) (hA15 _ (Kd.reads_of_C HR0.out))); have HC156 := Aside0.mk hC15; clear hA15 hC15 hi015 hsz15) | ((with_reducible refine zn (f := 26) rfl ?_); refine zz (some 23) rfl rfl Tryd.func26 (by kernel_rfl) rfl #[.slice A15 ((l0.take 6).drop 4).length (c0 - 4)] rfl (by (try simp only [List.map_toArray, List.map_cons, List.map_nil]); first | done | (rw [show ((l0.take 6).drop 4).length = (6 - 4) from (by rw [List.length_drop, List.length_take]; have h_ : (6 : Int) ≤ (l0.length : Int) := of_decide_eq_true (by first | (with_reducible assumption) | assumption); omega)] <;> rfl) | rfl | (simp only [List.length_drop, List.length_take]; rfl)) ?_; (with_reducible refine (spec_l4Number.calls k _ _ ((l0.take 6).drop 4) t157 _ ?side1 ?side2 A9.out).mono ?_); (case side1 => exact Kd.C_below HR156.out (by repeat (first | (with_reducible first | exact HB.out | apply zf | apply zc | apply ze | refine zk ?_ zJ.out | refine zk ?_ zK.out) | exact HB.out))); (case side2 => exact HC156.out); rintro e w' ⟨rfl, ⟨nd, rfl⟩⟩; refine ⟨_, rfl, ?_⟩))
     go_loopg [5, 6] k (fun kq v5 v6 w' => ∃ (x5_1 : Int) (x6_1 : Int) (x153000_1 : Bool) (x153001_1 : Int) (x156001_1 : List (S55)) (u156001 : Value), v5 = .int .i64 x5_1 ∧ v6 = .int .i64 x6_1 ∧ Aside0 (spec_DecodeTxn.l0 kq l0 t157 x5_1 x6_1 t154 x156001_1 = some (r1, r2, r3)) ∧ Aside0 (kq ≤ k) ∧ Aside0 (Kd.R k55 55 w' w.heap.size (fun _ => True) u156001 x156001_1) ∧ Aside0 (w'.heap[zH]? = some (.cells #[.bool x153000_1, .int .i64 x153001_1, (.slice none 0 0)] 27 (0, 0))) ∧ Aside0 (w'.heap[zI]? = some (.cells #[.int .i64 t154, u156001] 25 (0, 0))) ∧ Aside0 (Below w.heap.size w w'))
     case atStart => exact ⟨(6), (0), (false), (0), (([] : List (S55))), (.slice none 0 0), (by first | rfl | (simp; done) | (simp [*]; done)), (by first | rfl | (simp; done) | (simp [*]; done)), H', ⟨Nat.le_refl _⟩, ⟨by first | exact Kd.R_nil _ _ _ _ _ | exact Kd.N_nil _ _ _ _ _ | exact Kd.V_nil _ _ _ _ _ | exact Kd.Q_nil _ _ _ _ _ | exact Kd.S_nil _ _ _ _ _⟩, ⟨by (with_reducible repeat (first | refine zh ?_ _ | refine zj ?_ | refine zg ?_ _)); refine zo ?_ zL.out _; (with_reducible repeat (first | refine zh ?_ _ | refine zj ?_ | refine zg ?_ _)); refine zo ?_ zL.out _; (with_reducible repeat (first | refine zh ?_ _ | refine zj ?_ | refine zg ?_ _)); exact zC.out⟩, ⟨by (with_reducible repeat (first | refine zh ?_ _ | refine zj ?_ | refine zg ?_ _)); refine zq (cs := #[.int .i64 t154, .slice none 0 0]) ?_ 1 _ rfl; (with_reducible repeat (first | refine zh ?_ _ | refine zj ?_ | refine zg ?_ _)); refine zq (cs := #[.int .i64 0, .slice none 0 0]) ?_ 0 _ rfl; (with_reducible repeat (first | refine zh ?_ _ | refine zj ?_ | refine zg ?_ _)); exact zF.out⟩, ⟨by repeat (first | (with_reducible first | exact HB.out | apply zf | apply zc | apply ze | refine zk ?_ zJ.out | refine zk ?_ zK.out) | exact HB.out)⟩⟩
     case round =>
      clear H'
      try clear c1
      try clear c2
      try clear c2b0
      try clear c2b1
      try clear p2
      try clear c5
      try clear c5b0
      try clear c5b1
      try clear c6
      try clear c7
      try clear c7b0
      try clear c7b1
      try clear c8
      try clear c8b0
      try clear c8b1
      try clear c13
      try clear zV
      try clear zW
      try clear zZ
      try clear zab
      try clear zbb
      try clear zX
      try clear zY
      try clear zcb
      try clear zdb
      try clear zeb
      obtain ⟨x5_1, x6_1, x153000_1, x153001_1, x156001_1, u156001, rfl, rfl, HA, HK1, zE, zC, zF, HB⟩ := hrel
      cases gk with
      | zero => exact absurd HA.out (by simp [spec_DecodeTxn.l0])
      | succ k1 =>
       have H := HA.out
       clear HA
       simp only [spec_DecodeTxn.l0] at H
       by_cases c16 : x6_1 < t157
       ·rw [if_pos c16] at H
        have c16b0 : decide (x6_1 < t157) = true := decide_eq_true c16
        clear c16
        by_cases c17 : x5_1 ≥ (l0.length : Int)
        ·rw [if_pos c17] at H
         have c17b0 : decide ((l0.length : Int) ≤ x5_1) = true := decide_eq_true c17
         clear c17
         simp only [Option.some.injEq, Prod.mk.injEq] at H
         obtain ⟨rfl, rfl, rfl⟩ := H
         have zpe := zL.out
         have zqe := zN.out
         have zkb : wr.cell? ⟨zH, 0, none⟩ = some (.bool x153000_1) := (zi zC.out 0).trans rfl
         have zlb : wr.cell? ⟨zH, 1, none⟩ = some (.int .i64 x153001_1) := (zi zC.out 1).trans rfl
         have zmb : wr.cell? ⟨zH, 2, none⟩ = some (.slice none 0 0) := (zi zC.out 2).trans rfl
         have znb := zd zC.out 0
         have zob := zd zC.out 1
         have zpb := zd zC.out 2
         go_wp2
         refine bodyPost_ret (results_cell_row rfl _ _ zH 27 #[.bool false, .int .i64 0, .slice none 0 0] (0, 0) _ rfl (by (with_reducible repeat (first | refine zh ?_ _ | refine zj ?_ | refine zg ?_ _)); refine zq (cs := #[.bool false, .int .i64 0, .slice none 0 0]) ?_ 2 _ rfl; (with_reducible repeat (first | refine zh ?_ _ | refine zj ?_ | refine zg ?_ _)); refine zq (cs := #[.bool false, .int .i64 x153001_1, .slice none 0 0]) ?_ 1 _ rfl; (with_reducible repeat (first | refine zh ?_ _ | refine zj ?_ | refine zg ?_ _)); refine zq (cs := #[.bool x153000_1, .int .i64 x153001_1, .slice none 0 0]) ?_ 0 _ rfl; (with_reducible repeat (first | refine zh ?_ _ | refine zj ?_ | refine zg ?_ _)); exact zC.out) Tryd.underlying27 rfl (by kernel_rfl)) rfl ?_
         exact ⟨_, by first | rfl | (simp [errW_none, errW_some] <;> rfl) | (simp [*, errW_none, errW_some] <;> rfl), by first | exact Kd.R_nil _ _ _ _ _ | exact Kd.N_nil _ _ _ _ _ | exact Kd.V_nil _ _ _ _ _ | exact Kd.Q_nil _ _ _ _ _ | exact Kd.S_nil _ _ _ _ _, by repeat (first | (with_reducible first | exact HB.out | apply zf | apply zc | apply ze | refine zk ?_ zJ.out | refine zk ?_ zK.out) | exact HB.out)⟩
        ·rw [if_neg c17] at H
         have c17b0 : decide ((l0.length : Int) ≤ x5_1) = false := decide_eq_false c17
         clear c17
         by_cases c20 : 0 ≤ x5_1
         ·rw [if_pos c20] at H
          have c20b0 : decide (0 ≤ x5_1) = true := decide_eq_true c20
          clear c20
          by_cases c21 : x5_1 < (l0.length : Int)
          ·rw [if_pos c21] at H
           have c21b0 : decide (x5_1 < (l0.length : Int)) = true := decide_eq_true c21
           clear c21
           have HC22 := Aside0.mk H
           clear H
           go_upto_if 39 with (first | ((with_reducible refine zw (N := 7) rfl ?_); refine zx ?hg (N := 7) ?hd (cs := #[.bool false, .string (⟨#[]⟩ : ByteArray), .string (⟨#[]⟩ : ByteArray), .int .i64 0, .int .i64 0, .int .i64 0, .int .i64 0, .int .i64 0]) (t := 55) ?hr ?_; (case hd => rfl); (case hg => rfl); (case hr => first | (go_simp; done) | (go_simp; rfl)); intro zA hg w23 hbox hb; have n0_ := Aside0.mk (Kd.R_below (Kd.R_elderB (by (with_reducible repeat (first | apply Kd.R_alloc | apply Kd.R_drewN | apply Kd.R_drew)); exact zE.out) zA (Nat.le_of_eq hg.symm)) hb); have n1_ := Aside0.mk (zt (g := zH) (o := .cells #[.bool x153000_1, .int .i64 x153001_1, .slice none 0 0] 27 (0, 0)) (by (with_reducible repeat (first | refine zh ?_ _ | refine zj ?_ | refine zg ?_ _)); exact zC.out) hb); have n2_ := Aside0.mk (zt (g := zI) (o := .cells #[.int .i64 t154, u156001] 25 (0, 0)) (by (with_reducible repeat (first | refine zh ?_ _ | refine zj ?_ | refine zg ?_ _)); exact zF.out) hb); have n3_ := Aside0.mk (zm (by repeat (first | (with_reducible first | exact HB.out | apply zf | apply zc | apply ze | refine zk ?_ zJ.out | refine zk ?_ zK.out) | exact HB.out)) hb); have n4_ := Aside0.mk (hbox); have n5_ := Aside0.mk ((by rw [hg]; exact (zl (by repeat (first | (with_reducible first | exact HB.out | apply zf | apply zc | apply ze | refine zk ?_ zJ.out | refine zk ?_ zK.out) | exact HB.out))) : w.heap.size ≤ zA)); have n6_ := Aside0.mk ((by rw [hg]; exact (zl (by repeat (first | (with_reducible first | exact HB.out | apply zf | apply zc | apply ze | refine zk ?_ zJ.out | refine zk ?_ zK.out) | exact HB.out))) : w.heap.size ≤ zA)); have n7_ := Aside0.mk ((by rw [hg]; exact Nat.ne_of_lt (zy (g := zH) (o := .cells #[.bool x153000_1, .int .i64 x153001_1, .slice none 0 0] 27 (0, 0)) (by (with_reducible repeat (first | refine zh ?_ _ | refine zj ?_ | refine zg ?_ _)); exact zC.out)) : zH ≠ zA)); have n8_ := Aside0.mk ((by rw [hg]; exact Nat.ne_of_gt (zy (g := zH) (o := .cells #[.bool x153000_1, .int .i64 x153001_1, .slice none 0 0] 27 (0, 0)) (by (with_reducible repeat (first | refine zh ?_ _ | refine zj ?_ | refine zg ?_ _)); exact zC.out)) : zA ≠ zH)); have n9_ := Aside0.mk ((by rw [hg]; exact Nat.ne_of_lt (zy (g := zI) (o := .cells #[.int .i64 t154, u156001] 25 (0, 0)) (by (with_reducible repeat (first | refine zh ?_ _ | refine zj ?_ | refine zg ?_ _)); exact zF.out)) : zI ≠ zA)); have n10_ := Aside0.mk ((by rw [hg]; exact Nat.ne_of_gt (zy (g := zI) (o := .cells #[.int .i64 t154, u156001] 25 (0, 0)) (by (with_reducible repeat (first | refine zh ?_ _ | refine zj ?_ | refine zg ?_ _)); exact zF.out)) : zA ≠ zI)); clear zE; clear zC; clear zF; clear HB; have zE := n0_; have zC := n1_; have zF := n2_; have HB := n3_; have zB := n4_; have GW159 := n5_; have zO := n6_; have zD := n7_; have zT := n8_; have zG := n9_; have zU := n10_; clear n0_ n1_ n2_ n3_ n4_ n5_ n6_ n7_ n8_ n9_ n10_; clear hb hbox hg; have zre := zT.out; have zse := zD.out; have zte := zU.out; have zue := zG.out; have zqb : w23.cell? ⟨zA, 0, none⟩ = some (.bool false) := (zi zB.out 0).trans rfl; have zrb : w23.cell? ⟨zA, 1, none⟩ = some (.string (⟨#[]⟩ : ByteArray)) := (zi zB.out 1).trans rfl; have zsb : w23.cell? ⟨zA, 2, none⟩ = some (.string (⟨#[]⟩ : ByteArray)) := (zi zB.out 2).trans rfl; have ztb : w23.cell? ⟨zA, 3, none⟩ = some (.int .i64 0) := (zi zB.out 3).trans rfl; have zub : w23.cell? ⟨zA, 4, none⟩ = some (.int .i64 0) := (zi zB.out 4).trans rfl; have zvb : w23.cell? ⟨zA, 5, none⟩ = some (.int .i64 0) := (zi zB.out 5).trans rfl; have zwb : w23.cell? ⟨zA, 6, none⟩ = some (.int .i64 0) := (zi zB.out 6).trans rfl; have zxb : w23.cell? ⟨zA, 7, none⟩ = some (.int .i64 0) := (zi zB.out 7).trans rfl; have zyb := zd zB.out 0; have zzb := zd zB.out 1; have zAb := zd zB.out 2; have zBb := zd zB.out 3; have zCb := zd zB.out 4; have zDb := zd zB.out 5; have zEb := zd zB.out 6; have zFb := zd zB.out 7; have p160 : 0 ≤ (x5_1 : Int) := of_decide_eq_true (by first | (with_reducible assumption) | assumption); have q160 : x5_1 < (l0.length : Int) := of_decide_eq_true (by first | (with_reducible assumption) | assumption); obtain ⟨ad160, e160, hx160_0⟩ := Kd.at_int HR0.out x5_1 p160 q160; cases e160; have hn160_0 : ad160.block ≠ zA := Nat.ne_of_lt (Nat.lt_of_lt_of_le (by have := World.block_lt_of_cell? _ _ hx160_0; first | rwa [add_block] at this | exact this) GW159.out); have hn160_1 : ad160.block ≠ zA := Nat.ne_of_lt (Nat.lt_of_lt_of_le (by have := World.block_lt_of_cell? _ _ hx160_0; first | rwa [add_block] at this | exact this) GW159.out); have hn160_2 : ad160.block ≠ zA := Nat.ne_of_lt (Nat.lt_of_lt_of_le (by have := World.block_lt_of_cell? _ _ hx160_0; first | rwa [add_block] at this | exact this) GW159.out); have hn160_3 : ad160.block ≠ zA := Nat.ne_of_lt (Nat.lt_of_lt_of_le (by have := World.block_lt_of_cell? _ _ hx160_0; first | rwa [add_block] at this | exact this) GW159.out); have hn160_4 : ad160.block ≠ zA := Nat.ne_of_lt (Nat.lt_of_lt_of_le (by have := World.block_lt_of_cell? _ _ hx160_0; first | rwa [add_block] at this | exact this) GW159.out); have hn160_5 : ad160.block ≠ zA := Nat.ne_of_lt (Nat.lt_of_lt_of_le (by have := World.block_lt_of_cell? _ _ hx160_0; first | rwa [add_block] at this | exact this) GW159.out); have hn160_6 : ad160.block ≠ zA := Nat.ne_of_lt (Nat.lt_of_lt_of_le (by have := World.block_lt_of_cell? _ _ hx160_0; first | rwa [add_block] at this | exact this) GW159.out); have hn160_7 : ad160.block ≠ zA := Nat.ne_of_lt (Nat.lt_of_lt_of_le (by have := World.block_lt_of_cell? _ _ hx160_0; first | rwa [add_block] at this | exact this) GW159.out); replace hx160_0 := zb HB.out hx160_0; replace hx160_0 := (cell_far (p := ⟨zA, 0, none⟩) (by first | (rw [add_block]; exact hn160_0) | (show (Addr.add _ _).block ≠ _; rw [add_block]; exact hn160_0) | exact hn160_0) (.bool false)).trans hx160_0; replace hx160_0 := (cell_far (p := ⟨zA, 1, none⟩) (by first | (rw [add_block]; exact hn160_1) | (show (Addr.add _ _).block ≠ _; rw [add_block]; exact hn160_1) | exact hn160_1) (.string (⟨#[]⟩ : ByteArray))).trans hx160_0; replace hx160_0 := (cell_far (p := ⟨zA, 2, none⟩) (by first | (rw [add_block]; exact hn160_2) | (show (Addr.add _ _).block ≠ _; rw [add_block]; exact hn160_2) | exact hn160_2) (.string (⟨#[]⟩ : ByteArray))).trans hx160_0; replace hx160_0 := (cell_far (p := ⟨zA, 3, none⟩) (by first | (rw [add_block]; exact hn160_3) | (show (Addr.add _ _).block ≠ _; rw [add_block]; exact hn160_3) | exact hn160_3) (.int .i64 0)).trans hx160_0; replace hx160_0 := (cell_far (p := ⟨zA, 4, none⟩) (by first | (rw [add_block]; exact hn160_4) | (show (Addr.add _ _).block ≠ _; rw [add_block]; exact hn160_4) | exact hn160_4) (.int .i64 0)).trans hx160_0; replace hx160_0 := (cell_far (p := ⟨zA, 5, none⟩) (by first | (rw [add_block]; exact hn160_5) | (show (Addr.add _ _).block ≠ _; rw [add_block]; exact hn160_5) | exact hn160_5) (.int .i64 0)).trans hx160_0; replace hx160_0 := (cell_far (p := ⟨zA, 6, none⟩) (by first | (rw [add_block]; exact hn160_6) | (show (Addr.add _ _).block ≠ _; rw [add_block]; exact hn160_6) | exact hn160_6) (.int .i64 0)).trans hx160_0; replace hx160_0 := (cell_far (p := ⟨zA, 7, none⟩) (by first | (rw [add_block]; exact hn160_7) | (show (Addr.add _ _).block ≠ _; rw [add_block]; exact hn160_7) | exact hn160_7) (.int .i64 0)).trans hx160_0; clear hn160_0; clear hn160_1; clear hn160_2; clear hn160_3; clear hn160_4; clear hn160_5; clear hn160_6; clear hn160_7; replace p160 := eq_true p160; replace q160 := eq_true q160))
           (try simp only [Act.put, List.setIfInBounds_toArray, List.set_cons_zero, List.set_cons_succ])
           go_cut [8] (fun v8 wc => ∃ (kq : Nat) (x8_21 : Int) (x160001_21 : ByteArray) (x160002_21 : ByteArray) (x160003_21 : Int) (x160004_21 : Int) (x160005_21 : Int) (x160006_21 : Int) (x160007_21 : Int), v8 = .int .i64 x8_21 ∧ Aside0 (spec_DecodeTxn.j1 kq l0 t157 x5_1 x6_1 x8_21 t154 x156001_1 false x160001_21 x160002_21 x160003_21 x160004_21 x160005_21 x160006_21 x160007_21 = some (r1, r2, r3)) ∧ Aside0 (kq ≤ k1) ∧ Aside0 (Kd.R k55 55 wc w.heap.size (fun k_ => k_ ≠ zA) u156001 x156001_1) ∧ Aside0 (wc.heap[zH]? = some (.cells #[.bool x153000_1, .int .i64 x153001_1, (.slice none 0 0)] 27 (0, 0))) ∧ Aside0 (wc.heap[zI]? = some (.cells #[.int .i64 t154, u156001] 25 (0, 0))) ∧ Aside0 (wc.heap[zA]? = some (.cells #[.bool false, .string x160001_21, .string x160002_21, .int .i64 x160003_21, .int .i64 x160004_21, .int .i64 x160005_21, .int .i64 x160006_21, .int .i64 x160007_21] 55 (0, 0))) ∧ Aside0 (Below w.heap.size w wc))
           case first =>
            have H := HC22.out
            clear HC22
            by_cases c27 : (rd l0 x5_1) = 1
            ·rw [if_pos c27] at H
             have c27b0 : ((rd l0 x5_1) == 1) = true := beq_iff_eq.mpr c27
             have c27b1 : ((rd l0 x5_1) != 1) = false := bne_eq_false_iff_eq.mpr c27
             clear c27
             (first | rw [c27b0] | (simp only [zp, zr]; rw [c27b0]) | skip)
             replace H := Option.bind_eq_some_iff.mp H
             obtain ⟨⟨t161, t162, t163, t164, t165, t166, t167, t168⟩, A280, H⟩ := H
             replace H : (spec_DecodeTxn.j1 k1 l0 t157 x5_1 x6_1 t168 t154 x156001_1 false t161 t162 t163 t164 t165 t166 t167) = some (r1, r2, r3) := H
             have A28 := Aside0.mk A280
             clear A280
             have H' := Aside0.mk H
             clear H
             go_wp2_with (first | ((with_reducible refine zn (f := 27) rfl ?_); refine zz (some 44) rfl rfl Tryd.func27 (by kernel_rfl) rfl #[.slice (some ad160) l0.length c0, .int .i64 (wrap64 (x5_1 + 1))] rfl (by (try simp only [List.map_toArray, List.map_cons, List.map_nil]); first | done | rfl | (simp only [List.length_drop, List.length_take]; rfl)) ?_; (with_reducible refine (spec_l4ReadNode.calls k1 _ _ l0 (wrap64 (x5_1 + 1)) t161 t162 t163 t164 t165 t166 t167 t168 _ ?side1 ?side2 A28.out).mono ?_); (case side1 => exact Kd.C_below HR0.out (by repeat (first | (with_reducible first | exact HB.out | apply zf | apply zc | apply ze | refine zk ?_ zJ.out | refine zk ?_ zK.out | refine zk ?_ zO.out) | exact HB.out))); (case side2 => exact HC0.out); rintro e w29 ⟨rfl, hb⟩; refine ⟨_, rfl, ?_⟩; have n0_ := Aside0.mk (Kd.R_below (by (with_reducible repeat (first | apply Kd.R_alloc | apply Kd.R_drewN | apply Kd.R_drew)); exact (Kd.R_mono (Kd.R_far (p := ⟨zA, 7, none⟩) (Kd.R_far (p := ⟨zA, 6, none⟩) (Kd.R_far (p := ⟨zA, 5, none⟩) (Kd.R_far (p := ⟨zA, 4, none⟩) (Kd.R_far (p := ⟨zA, 3, none⟩) (Kd.R_far (p := ⟨zA, 2, none⟩) (Kd.R_far (p := ⟨zA, 1, none⟩) (Kd.R_far (p := ⟨zA, 0, none⟩) (Kd.R_mono zE.out (fun k_ hk => (⟨hk, hk.2⟩ : _ ∧ k_ ≠ zA))) (fun _ hk => hk.2) (.bool false)) (fun _ hk => hk.2) (.string (⟨#[]⟩ : ByteArray))) (fun _ hk => hk.2) (.string (⟨#[]⟩ : ByteArray))) (fun _ hk => hk.2) (.int .i64 0)) (fun _ hk => hk.2) (.int .i64 0)) (fun _ hk => hk.2) (.int .i64 0)) (fun _ hk => hk.2) (.int .i64 0)) (fun _ hk => hk.2) (.int .i64 0)) (fun _ h_ => h_.1))) hb); have n1_ := Aside0.mk (zt (g := zH) (o := .cells #[.bool x153000_1, .int .i64 x153001_1, .slice none 0 0] 27 (0, 0)) (by (with_reducible repeat (first | refine zh ?_ _ | refine zj ?_ | refine zg ?_ _)); refine zo ?_ zD.out _; (with_reducible repeat (first | refine zh ?_ _ | refine zj ?_ | refine zg ?_ _)); refine zo ?_ zD.out _; (with_reducible repeat (first | refine zh ?_ _ | refine zj ?_ | refine zg ?_ _)); refine zo ?_ zD.out _; (with_reducible repeat (first | refine zh ?_ _ | refine zj ?_ | refine zg ?_ _)); refine zo ?_ zD.out _; (with_reducible repeat (first | refine zh ?_ _ | refine zj ?_ | refine zg ?_ _)); refine zo ?_ zD.out _; (with_reducible repeat (first | refine zh ?_ _ | refine zj ?_ | refine zg ?_ _)); refine zo ?_ zD.out _; (with_reducible repeat (first | refine zh ?_ _ | refine zj ?_ | refine zg ?_ _)); refine zo ?_ zD.out _; (with_reducible repeat (first | refine zh ?_ _ | refine zj ?_ | refine zg ?_ _)); refine zo ?_ zD.out _; (with_reducible repeat (first | refine zh ?_ _ | refine zj ?_ | refine zg ?_ _)); exact zC.out) hb); have n2_ := Aside0.mk (zt (g := zI) (o := .cells #[.int .i64 t154, u156001] 25 (0, 0)) (by (with_reducible repeat (first | refine zh ?_ _ | refine zj ?_ | refine zg ?_ _)); refine zo ?_ zG.out _; (with_reducible repeat (first | refine zh ?_ _ | refine zj ?_ | refine zg ?_ _)); refine zo ?_ zG.out _; (with_reducible repeat (first | refine zh ?_ _ | refine zj ?_ | refine zg ?_ _)); refine zo ?_ zG.out _; (with_reducible repeat (first | refine zh ?_ _ | refine zj ?_ | refine zg ?_ _)); refine zo ?_ zG.out _; (with_reducible repeat (first | refine zh ?_ _ | refine zj ?_ | refine zg ?_ _)); refine zo ?_ zG.out _; (with_reducible repeat (first | refine zh ?_ _ | refine zj ?_ | refine zg ?_ _)); refine zo ?_ zG.out _; (with_reducible repeat (first | refine zh ?_ _ | refine zj ?_ | refine zg ?_ _)); refine zo ?_ zG.out _; (with_reducible repeat (first | refine zh ?_ _ | refine zj ?_ | refine zg ?_ _)); refine zo ?_ zG.out _; (with_reducible repeat (first | refine zh ?_ _ | refine zj ?_ | refine zg ?_ _)); exact zF.out) hb); have n3_ := Aside0.mk (zt (g := zA) (o := .cells #[.bool false, .string (⟨#[]⟩ : ByteArray), .string (⟨#[]⟩ : ByteArray), .int .i64 0, .int .i64 0, .int .i64 0, .int .i64 0, .int .i64 0] 55 (0, 0)) (by (with_reducible repeat (first | refine zh ?_ _ | refine zj ?_ | refine zg ?_ _)); refine zq (cs := #[.bool false, .string (⟨#[]⟩ : ByteArray), .string (⟨#[]⟩ : ByteArray), .int .i64 0, .int .i64 0, .int .i64 0, .int .i64 0, .int .i64 0]) ?_ 7 _ rfl; (with_reducible repeat (first | refine zh ?_ _ | refine zj ?_ | refine zg ?_ _)); refine zq (cs := #[.bool false, .string (⟨#[]⟩ : ByteArray), .string (⟨#[]⟩ : ByteArray), .int .i64 0, .int .i64 0, .int .i64 0, .int .i64 0, .int .i64 0]) ?_ 6 _ rfl; (with_reducible repeat (first | refine zh ?_ _ | refine zj ?_ | refine zg ?_ _)); refine zq (cs := #[.bool false, .string (⟨#[]⟩ : ByteArray), .string (⟨#[]⟩ : ByteArray), .int .i64 0, .int .i64 0, .int .i64 0, .int .i64 0, .int .i64 0]) ?_ 5 _ rfl; (with_reducible repeat (first | refine zh ?_ _ | refine zj ?_ | refine zg ?_ _)); refine zq (cs := #[.bool false, .string (⟨#[]⟩ : ByteArray), .string (⟨#[]⟩ : ByteArray), .int .i64 0, .int .i64 0, .int .i64 0, .int .i64 0, .int .i64 0]) ?_ 4 _ rfl; (with_reducible repeat (first | refine zh ?_ _ | refine zj ?_ | refine zg ?_ _)); refine zq (cs := #[.bool false, .string (⟨#[]⟩ : ByteArray), .string (⟨#[]⟩ : ByteArray), .int .i64 0, .int .i64 0, .int .i64 0, .int .i64 0, .int .i64 0]) ?_ 3 _ rfl; (with_reducible repeat (first | refine zh ?_ _ | refine zj ?_ | refine zg ?_ _)); refine zq (cs := #[.bool false, .string (⟨#[]⟩ : ByteArray), .string (⟨#[]⟩ : ByteArray), .int .i64 0, .int .i64 0, .int .i64 0, .int .i64 0, .int .i64 0]) ?_ 2 _ rfl; (with_reducible repeat (first | refine zh ?_ _ | refine zj ?_ | refine zg ?_ _)); refine zq (cs := #[.bool false, .string (⟨#[]⟩ : ByteArray), .string (⟨#[]⟩ : ByteArray), .int .i64 0, .int .i64 0, .int .i64 0, .int .i64 0, .int .i64 0]) ?_ 1 _ rfl; (with_reducible repeat (first | refine zh ?_ _ | refine zj ?_ | refine zg ?_ _)); refine zq (cs := #[.bool false, .string (⟨#[]⟩ : ByteArray), .string (⟨#[]⟩ : ByteArray), .int .i64 0, .int .i64 0, .int .i64 0, .int .i64 0, .int .i64 0]) ?_ 0 _ rfl; (with_reducible repeat (first | refine zh ?_ _ | refine zj ?_ | refine zg ?_ _)); exact zB.out) hb); have n4_ := Aside0.mk (zm (by repeat (first | (with_reducible first | exact HB.out | apply zf | apply zc | apply ze | refine zk ?_ zJ.out | refine zk ?_ zK.out | refine zk ?_ zO.out) | exact HB.out)) hb); clear zE; clear zC; clear zF; clear zB; clear HB; have zE := n0_; have zC := n1_; have zF := n2_; have zB := n3_; have HB := n4_; clear n0_ n1_ n2_ n3_ n4_; (try clear hb); (try clear hb2); (try clear hk); (try clear hi)) | ((with_reducible refine zw (N := 9) rfl ?_); refine zx ?hg (N := 9) ?hd (cs := #[.string (⟨#[]⟩ : ByteArray), .string (⟨#[]⟩ : ByteArray), .int .i64 0, .int .i64 0, .int .i64 0, .int .i64 0, .int .i64 0]) (t := 53) ?hr ?_; (case hd => rfl); (case hg => rfl); (case hr => first | (go_simp; done) | (go_simp; rfl)); intro zM hg w30 hbox hb; have n0_ := Aside0.mk (Kd.R_below (by (with_reducible repeat (first | apply Kd.R_alloc | apply Kd.R_drewN | apply Kd.R_drew)); exact zE.out) hb); have n1_ := Aside0.mk (zt (g := zH) (o := .cells #[.bool x153000_1, .int .i64 x153001_1, .slice none 0 0] 27 (0, 0)) (by (with_reducible repeat (first | refine zh ?_ _ | refine zj ?_ | refine zg ?_ _)); exact zC.out) hb); have n2_ := Aside0.mk (zt (g := zI) (o := .cells #[.int .i64 t154, u156001] 25 (0, 0)) (by (with_reducible repeat (first | refine zh ?_ _ | refine zj ?_ | refine zg ?_ _)); exact zF.out) hb); have n3_ := Aside0.mk (zt (g := zA) (o := .cells #[.bool false, .string (⟨#[]⟩ : ByteArray), .string (⟨#[]⟩ : ByteArray), .int .i64 0, .int .i64 0, .int .i64 0, .int .i64 0, .int .i64 0] 55 (0, 0)) (by (with_reducible repeat (first | refine zh ?_ _ | refine zj ?_ | refine zg ?_ _)); exact zB.out) hb); have n4_ := Aside0.mk (zm (by repeat (first | (with_reducible first | exact HB.out | apply zf | apply zc | apply ze | refine zk ?_ zJ.out | refine zk ?_ zK.out | refine zk ?_ zO.out) | exact HB.out)) hb); have n5_ := Aside0.mk (hbox); have n6_ := Aside0.mk ((by rw [hg]; exact (zl (by repeat (first | (with_reducible first | exact HB.out | apply zf | apply zc | apply ze | refine zk ?_ zJ.out | refine zk ?_ zK.out | refine zk ?_ zO.out) | exact HB.out))) : w.heap.size ≤ zM)); have n7_ := Aside0.mk ((by rw [hg]; exact (zl (by repeat (first | (with_reducible first | exact HB.out | apply zf | apply zc | apply ze | refine zk ?_ zJ.out | refine zk ?_ zK.out | refine zk ?_ zO.out) | exact HB.out))) : w.heap.size ≤ zM)); have n8_ := Aside0.mk ((by rw [hg]; exact Nat.ne_of_lt (zy (g := zH) (o := .cells #[.bool x153000_1, .int .i64 x153001_1, .slice none 0 0] 27 (0, 0)) (by (with_reducible repeat (first | refine zh ?_ _ | refine zj ?_ | refine zg ?_ _)); exact zC.out)) : zH ≠ zM)); have n9_ := Aside0.mk ((by rw [hg]; exact Nat.ne_of_gt (zy (g := zH) (o := .cells #[.bool x153000_1, .int .i64 x153001_1, .slice none 0 0] 27 (0, 0)) (by (with_reducible repeat (first | refine zh ?_ _ | refine zj ?_ | refine zg ?_ _)); exact zC.out)) : zM ≠ zH)); have n10_ := Aside0.mk ((by rw [hg]; exact Nat.ne_of_lt (zy (g := zI) (o := .cells #[.int .i64 t154, u156001] 25 (0, 0)) (by (with_reducible repeat (first | refine zh ?_ _ | refine zj ?_ | refine zg ?_ _)); exact zF.out)) : zI ≠ zM)); have n11_ := Aside0.mk ((by rw [hg]; exact Nat.ne_of_gt (zy (g := zI) (o := .cells #[.int .i64 t154, u156001] 25 (0, 0)) (by (with_reducible repeat (first | refine zh ?_ _ | refine zj ?_ | refine zg ?_ _)); exact zF.out)) : zM ≠ zI)); have n12_ := Aside0.mk ((by rw [hg]; exact Nat.ne_of_lt (zy (g := zA) (o := .cells #[.bool false, .string (⟨#[]⟩ : ByteArray), .string (⟨#[]⟩ : ByteArray), .int .i64 0, .int .i64 0, .int .i64 0, .int .i64 0, .int .i64 0] 55 (0, 0)) (by (with_reducible repeat (first | refine zh ?_ _ | refine zj ?_ | refine zg ?_ _)); exact zB.out)) : zA ≠ zM)); have n13_ := Aside0.mk ((by rw [hg]; exact Nat.ne_of_gt (zy (g := zA) (o := .cells #[.bool false, .string (⟨#[]⟩ : ByteArray), .string (⟨#[]⟩ : ByteArray), .int .i64 0, .int .i64 0, .int .i64 0, .int .i64 0, .int .i64 0] 55 (0, 0)) (by (with_reducible repeat (first | refine zh ?_ _ | refine zj ?_ | refine zg ?_ _)); exact zB.out)) : zM ≠ zA)); clear zE; clear zC; clear zF; clear zB; clear HB; have zE := n0_; have zC := n1_; have zF := n2_; have zB := n3_; have HB := n4_; have zS := n5_; have GW169 := n6_; have zkc := n7_; have zP := n8_; have zfb := n9_; have zQ := n10_; have zgb := n11_; have zR := n12_; have zhb := n13_; clear n0_ n1_ n2_ n3_ n4_ n5_ n6_ n7_ n8_ n9_ n10_ n11_ n12_ n13_; clear hb hbox hg; have zve := zfb.out; have zwe := zP.out; have zxe := zgb.out; have zye := zQ.out; have zze := zhb.out; have zAe := zR.out; have zGb : w30.cell? ⟨zM, 0, none⟩ = some (.string (⟨#[]⟩ : ByteArray)) := (zi zS.out 0).trans rfl; have zHb : w30.cell? ⟨zM, 1, none⟩ = some (.string (⟨#[]⟩ : ByteArray)) := (zi zS.out 1).trans rfl; have zIb : w30.cell? ⟨zM, 2, none⟩ = some (.int .i64 0) := (zi zS.out 2).trans rfl; have zJb : w30.cell? ⟨zM, 3, none⟩ = some (.int .i64 0) := (zi zS.out 3).trans rfl; have zKb : w30.cell? ⟨zM, 4, none⟩ = some (.int .i64 0) := (zi zS.out 4).trans rfl; have zLb : w30.cell? ⟨zM, 5, none⟩ = some (.int .i64 0) := (zi zS.out 5).trans rfl; have zMb : w30.cell? ⟨zM, 6, none⟩ = some (.int .i64 0) := (zi zS.out 6).trans rfl; have zNb := zd zS.out 0; have zOb := zd zS.out 1; have zPb := zd zS.out 2; have zQb := zd zS.out 3; have zRb := zd zS.out 4; have zSb := zd zS.out 5; have zTb := zd zS.out 6; have zBe := zT.out; have zCe := zD.out; have zDe := zU.out; have zEe := zG.out; have zUb : w30.cell? ⟨zA, 0, none⟩ = some (.bool false) := (zi zB.out 0).trans rfl; have zVb : w30.cell? ⟨zA, 1, none⟩ = some (.string (⟨#[]⟩ : ByteArray)) := (zi zB.out 1).trans rfl; have zWb : w30.cell? ⟨zA, 2, none⟩ = some (.string (⟨#[]⟩ : ByteArray)) := (zi zB.out 2).trans rfl; have zXb : w30.cell? ⟨zA, 3, none⟩ = some (.int .i64 0) := (zi zB.out 3).trans rfl; have zYb : w30.cell? ⟨zA, 4, none⟩ = some (.int .i64 0) := (zi zB.out 4).trans rfl; have zZb : w30.cell? ⟨zA, 5, none⟩ = some (.int .i64 0) := (zi zB.out 5).trans rfl; have zac : w30.cell? ⟨zA, 6, none⟩ = some (.int .i64 0) := (zi zB.out 6).trans rfl; have zbc : w30.cell? ⟨zA, 7, none⟩ = some (.int .i64 0) := (zi zB.out 7).trans rfl; have zcc := zd zB.out 0; have zdc := zd zB.out 1; have zec := zd zB.out 2; have zfc := zd zB.out 3; have zgc := zd zB.out 4; have zhc := zd zB.out 5; have zic := zd zB.out 6; have zjc := zd zB.out 7))
             go_meet
             case rel => exact ⟨_, (t168), (t161), (t162), (t163), (t164), (t165), (t166), (t167), (by first | rfl | (simp; done) | (simp [*]; done)), H', ⟨by have := HK1.out; first | omega | exact Nat.le_refl _⟩, ⟨by (with_reducible repeat (first | apply Kd.R_alloc | apply Kd.R_drewN | apply Kd.R_drew)); exact Kd.R_mono (Kd.R_far (p := ⟨zA, 7, none⟩) (Kd.R_far (p := ⟨zA, 6, none⟩) (Kd.R_far (p := ⟨zA, 5, none⟩) (Kd.R_far (p := ⟨zA, 4, none⟩) (Kd.R_far (p := ⟨zA, 3, none⟩) (Kd.R_far (p := ⟨zA, 2, none⟩) (Kd.R_far (p := ⟨zA, 1, none⟩) (Kd.R_far (p := ⟨zM, 6, none⟩) (Kd.R_far (p := ⟨zM, 5, none⟩) (Kd.R_far (p := ⟨zM, 4, none⟩) (Kd.R_far (p := ⟨zM, 3, none⟩) (Kd.R_far (p := ⟨zM, 2, none⟩) (Kd.R_far (p := ⟨zM, 1, none⟩) (Kd.R_far (p := ⟨zM, 0, none⟩) (Kd.R_mono (Kd.R_types zE.out zS.out (by decide)) (fun k_ hk => (⟨hk, hk.1.2⟩ : _ ∧ k_ ≠ zA))) (fun _ hk => hk.1.2) (.string t161)) (fun _ hk => hk.1.2) (.string t162)) (fun _ hk => hk.1.2) (.int .i64 t163)) (fun _ hk => hk.1.2) (.int .i64 t164)) (fun _ hk => hk.1.2) (.int .i64 t165)) (fun _ hk => hk.1.2) (.int .i64 t166)) (fun _ hk => hk.1.2) (.int .i64 t167)) (fun _ hk => hk.2) (.string t161)) (fun _ hk => hk.2) (.string t162)) (fun _ hk => hk.2) (.int .i64 t163)) (fun _ hk => hk.2) (.int .i64 t164)) (fun _ hk => hk.2) (.int .i64 t165)) (fun _ hk => hk.2) (.int .i64 t166)) (fun _ hk => hk.2) (.int .i64 t167)) (fun _ hk => hk.1.1.2)⟩, ⟨by (with_reducible repeat (first | refine zh ?_ _ | refine zj ?_ | refine zg ?_ _)); refine zo ?_ zD.out _; (with_reducible repeat (first | refine zh ?_ _ | refine zj ?_ | refine zg ?_ _)); refine zo ?_ zD.out _; (with_reducible repeat (first | refine zh ?_ _ | refine zj ?_ | refine zg ?_ _)); refine zo ?_ zD.out _; (with_reducible repeat (first | refine zh ?_ _ | refine zj ?_ | refine zg ?_ _)); refine zo ?_ zD.out _; (with_reducible repeat (first | refine zh ?_ _ | refine zj ?_ | refine zg ?_ _)); refine zo ?_ zD.out _; (with_reducible repeat (first | refine zh ?_ _ | refine zj ?_ | refine zg ?_ _)); refine zo ?_ zD.out _; (with_reducible repeat (first | refine zh ?_ _ | refine zj ?_ | refine zg ?_ _)); refine zo ?_ zD.out _; (with_reducible repeat (first | refine zh ?_ _ | refine zj ?_ | refine zg ?_ _)); refine zo ?_ zP.out _; (with_reducible repeat (first | refine zh ?_ _ | refine zj ?_ | refine zg ?_ _)); refine zo ?_ zP.out _; (with_reducible repeat (first | refine zh ?_ _ | refine zj ?_ | refine zg ?_ _)); refine zo ?_ zP.out _; (with_reducible repeat (first | refine zh ?_ _ | refine zj ?_ | refine zg ?_ _)); refine zo ?_ zP.out _; (with_reducible repeat (first | refine zh ?_ _ | refine zj ?_ | refine zg ?_ _)); refine zo ?_ zP.out _; (with_reducible repeat (first | refine zh ?_ _ | refine zj ?_ | refine zg ?_ _)); refine zo ?_ zP.out _; (with_reducible repeat (first | refine zh ?_ _ | refine zj ?_ | refine zg ?_ _)); refine zo ?_ zP.out _; (with_reducible repeat (first | refine zh ?_ _ | refine zj ?_ | refine zg ?_ _)); exact zC.out⟩, ⟨by (with_reducible repeat (first | refine zh ?_ _ | refine zj ?_ | refine zg ?_ _)); refine zo ?_ zG.out _; (with_reducible repeat (first | refine zh ?_ _ | refine zj ?_ | refine zg ?_ _)); refine zo ?_ zG.out _; (with_reducible repeat (first | refine zh ?_ _ | refine zj ?_ | refine zg ?_ _)); refine zo ?_ zG.out _; (with_reducible repeat (first | refine zh ?_ _ | refine zj ?_ | refine zg ?_ _)); refine zo ?_ zG.out _; (with_reducible repeat (first | refine zh ?_ _ | refine zj ?_ | refine zg ?_ _)); refine zo ?_ zG.out _; (with_reducible repeat (first | refine zh ?_ _ | refine zj ?_ | refine zg ?_ _)); refine zo ?_ zG.out _; (with_reducible repeat (first | refine zh ?_ _ | refine zj ?_ | refine zg ?_ _)); refine zo ?_ zG.out _; (with_reducible repeat (first | refine zh ?_ _ | refine zj ?_ | refine zg ?_ _)); refine zo ?_ zQ.out _; (with_reducible repeat (first | refine zh ?_ _ | refine zj ?_ | refine zg ?_ _)); refine zo ?_ zQ.out _; (with_reducible repeat (first | refine zh ?_ _ | refine zj ?_ | refine zg ?_ _)); refine zo ?_ zQ.out _; (with_reducible repeat (first | refine zh ?_ _ | refine zj ?_ | refine zg ?_ _)); refine zo ?_ zQ.out _; (with_reducible repeat (first | refine zh ?_ _ | refine zj ?_ | refine zg ?_ _)); refine zo ?_ zQ.out _; (with_reducible repeat (first | refine zh ?_ _ | refine zj ?_ | refine zg ?_ _)); refine zo ?_ zQ.out _; (with_reducible repeat (first | refine zh ?_ _ | refine zj ?_ | refine zg ?_ _)); refine zo ?_ zQ.out _; (with_reducible repeat (first | refine zh ?_ _ | refine zj ?_ | refine zg ?_ _)); exact zF.out⟩, ⟨by (with_reducible repeat (first | refine zh ?_ _ | refine zj ?_ | refine zg ?_ _)); refine zq (cs := #[.bool false, .string t161, .string t162, .int .i64 t163, .int .i64 t164, .int .i64 t165, .int .i64 t166, .int .i64 0]) ?_ 7 _ rfl; (with_reducible repeat (first | refine zh ?_ _ | refine zj ?_ | refine zg ?_ _)); refine zq (cs := #[.bool false, .string t161, .string t162, .int .i64 t163, .int .i64 t164, .int .i64 t165, .int .i64 0, .int .i64 0]) ?_ 6 _ rfl; (with_reducible repeat (first | refine zh ?_ _ | refine zj ?_ | refine zg ?_ _)); refine zq (cs := #[.bool false, .string t161, .string t162, .int .i64 t163, .int .i64 t164, .int .i64 0, .int .i64 0, .int .i64 0]) ?_ 5 _ rfl; (with_reducible repeat (first | refine zh ?_ _ | refine zj ?_ | refine zg ?_ _)); refine zq (cs := #[.bool false, .string t161, .string t162, .int .i64 t163, .int .i64 0, .int .i64 0, .int .i64 0, .int .i64 0]) ?_ 4 _ rfl; (with_reducible repeat (first | refine zh ?_ _ | refine zj ?_ | refine zg ?_ _)); refine zq (cs := #[.bool false, .string t161, .string t162, .int .i64 0, .int .i64 0, .int .i64 0, .int .i64 0, .int .i64 0]) ?_ 3 _ rfl; (with_reducible repeat (first | refine zh ?_ _ | refine zj ?_ | refine zg ?_ _)); refine zq (cs := #[.bool false, .string t161, .string (⟨#[]⟩ : ByteArray), .int .i64 0, .int .i64 0, .int .i64 0, .int .i64 0, .int .i64 0]) ?_ 2 _ rfl; (with_reducible repeat (first | refine zh ?_ _ | refine zj ?_ | refine zg ?_ _)); refine zq (cs := #[.bool false, .string (⟨#[]⟩ : ByteArray), .string (⟨#[]⟩ : ByteArray), .int .i64 0, .int .i64 0, .int .i64 0, .int .i64 0, .int .i64 0]) ?_ 1 _ rfl; (with_reducible repeat (first | refine zh ?_ _ | refine zj ?_ | refine zg ?_ _)); refine zo ?_ zR.out _; (with_reducible repeat (first | refine zh ?_ _ | refine zj ?_ | refine zg ?_ _)); refine zo ?_ zR.out _; (with_reducible repeat (first | refine zh ?_ _ | refine zj ?_ | refine zg ?_ _)); refine zo ?_ zR.out _; (with_reducible repeat (first | refine zh ?_ _ | refine zj ?_ | refine zg ?_ _)); refine zo ?_ zR.out _; (with_reducible repeat (first | refine zh ?_ _ | refine zj ?_ | refine zg ?_ _)); refine zo ?_ zR.out _; (with_reducible repeat (first | refine zh ?_ _ | refine zj ?_ | refine zg ?_ _)); refine zo ?_ zR.out _; (with_reducible repeat (first | refine zh ?_ _ | refine zj ?_ | refine zg ?_ _)); refine zo ?_ zR.out _; (with_reducible repeat (first | refine zh ?_ _ | refine zj ?_ | refine zg ?_ _)); exact zB.out⟩, ⟨by repeat (first | (with_reducible first | exact HB.out | apply zf | apply zc | apply ze | refine zk ?_ zJ.out | refine zk ?_ zK.out | refine zk ?_ zO.out | refine zk ?_ zkc.out) | exact HB.out)⟩⟩
            ·rw [if_neg c27] at H
             have c27b0 : ((rd l0 x5_1) == 1) = false := beq_eq_false_iff_ne.mpr c27
             have c27b1 : ((rd l0 x5_1) != 1) = true := bne_iff_ne.mpr c27
             (first | rw [c27b0] | (simp only [zp, zr]; rw [c27b0]) | skip)
             have H' := Aside0.mk H
             clear H
             go_wp2
             go_meet
             case rel => exact ⟨_, ((-1)), ((⟨#[]⟩ : ByteArray)), ((⟨#[]⟩ : ByteArray)), (0), (0), (0), (0), (0), (by first | rfl | (simp; done) | (simp [*]; done)), H', ⟨by have := HK1.out; first | omega | exact Nat.le_refl _⟩, ⟨by (with_reducible repeat (first | apply Kd.R_alloc | apply Kd.R_drewN | apply Kd.R_drew)); exact Kd.R_mono (Kd.R_far (p := ⟨zA, 7, none⟩) (Kd.R_far (p := ⟨zA, 6, none⟩) (Kd.R_far (p := ⟨zA, 5, none⟩) (Kd.R_far (p := ⟨zA, 4, none⟩) (Kd.R_far (p := ⟨zA, 3, none⟩) (Kd.R_far (p := ⟨zA, 2, none⟩) (Kd.R_far (p := ⟨zA, 1, none⟩) (Kd.R_far (p := ⟨zA, 0, none⟩) (Kd.R_mono zE.out (fun k_ hk => (⟨hk, hk.2⟩ : _ ∧ k_ ≠ zA))) (fun _ hk => hk.2) (.bool false)) (fun _ hk => hk.2) (.string (⟨#[]⟩ : ByteArray))) (fun _ hk => hk.2) (.string (⟨#[]⟩ : ByteArray))) (fun _ hk => hk.2) (.int .i64 0)) (fun _ hk => hk.2) (.int .i64 0)) (fun _ hk => hk.2) (.int .i64 0)) (fun _ hk => hk.2) (.int .i64 0)) (fun _ hk => hk.2) (.int .i64 0)) (fun _ hk => hk.1.2)⟩, ⟨by (with_reducible repeat (first | refine zh ?_ _ | refine zj ?_ | refine zg ?_ _)); refine zo ?_ zD.out _; (with_reducible repeat (first | refine zh ?_ _ | refine zj ?_ | refine zg ?_ _)); refine zo ?_ zD.out _; (with_reducible repeat (first | refine zh ?_ _ | refine zj ?_ | refine zg ?_ _)); refine zo ?_ zD.out _; (with_reducible repeat (first | refine zh ?_ _ | refine zj ?_ | refine zg ?_ _)); refine zo ?_ zD.out _; (with_reducible repeat (first | refine zh ?_ _ | refine zj ?_ | refine zg ?_ _)); refine zo ?_ zD.out _; (with_reducible repeat (first | refine zh ?_ _ | refine zj ?_ | refine zg ?_ _)); refine zo ?_ zD.out _; (with_reducible repeat (first | refine zh ?_ _ | refine zj ?_ | refine zg ?_ _)); refine zo ?_ zD.out _; (with_reducible repeat (first | refine zh ?_ _ | refine zj ?_ | refine zg ?_ _)); refine zo ?_ zD.out _; (with_reducible repeat (first | refine zh ?_ _ | refine zj ?_ | refine zg ?_ _)); exact zC.out⟩, ⟨by (with_reducible repeat (first | refine zh ?_ _ | refine zj ?_ | refine zg ?_ _)); refine zo ?_ zG.out _; (with_reducible repeat (first | refine zh ?_ _ | refine zj ?_ | refine zg ?_ _)); refine zo ?_ zG.out _; (with_reducible repeat (first | refine zh ?_ _ | refine zj ?_ | refine zg ?_ _)); refine zo ?_ zG.out _; (with_reducible repeat (first | refine zh ?_ _ | refine zj ?_ | refine zg ?_ _)); refine zo ?_ zG.out _; (with_reducible repeat (first | refine zh ?_ _ | refine zj ?_ | refine zg ?_ _)); refine zo ?_ zG.out _; (with_reducible repeat (first | refine zh ?_ _ | refine zj ?_ | refine zg ?_ _)); refine zo ?_ zG.out _; (with_reducible repeat (first | refine zh ?_ _ | refine zj ?_ | refine zg ?_ _)); refine zo ?_ zG.out _; (with_reducible repeat (first | refine zh ?_ _ | refine zj ?_ | refine zg ?_ _)); refine zo ?_ zG.out _; (with_reducible repeat (first | refine zh ?_ _ | refine zj ?_ | refine zg ?_ _)); exact zF.out⟩, ⟨by (with_reducible repeat (first | refine zh ?_ _ | refine zj ?_ | refine zg ?_ _)); refine zq (cs := #[.bool false, .string (⟨#[]⟩ : ByteArray), .string (⟨#[]⟩ : ByteArray), .int .i64 0, .int .i64 0, .int .i64 0, .int .i64 0, .int .i64 0]) ?_ 7 _ rfl; (with_reducible repeat (first | refine zh ?_ _ | refine zj ?_ | refine zg ?_ _)); refine zq (cs := #[.bool false, .string (⟨#[]⟩ : ByteArray), .string (⟨#[]⟩ : ByteArray), .int .i64 0, .int .i64 0, .int .i64 0, .int .i64 0, .int .i64 0]) ?_ 6 _ rfl; (with_reducible repeat (first | refine zh ?_ _ | refine zj ?_ | refine zg ?_ _)); refine zq (cs := #[.bool false, .string (⟨#[]⟩ : ByteArray), .string (⟨#[]⟩ : ByteArray), .int .i64 0, .int .i64 0, .int .i64 0, .int .i64 0, .int .i64 0]) ?_ 5 _ rfl; (with_reducible repeat (first | refine zh ?_ _ | refine zj ?_ | refine zg ?_ _)); refine zq (cs := #[.bool false, .string (⟨#[]⟩ : ByteArray), .string (⟨#[]⟩ : ByteArray), .int .i64 0, .int .i64 0, .int .i64 0, .int .i64 0, .int .i64 0]) ?_ 4 _ rfl; (with_reducible repeat (first | refine zh ?_ _ | refine zj ?_ | refine zg ?_ _)); refine zq (cs := #[.bool false, .string (⟨#[]⟩ : ByteArray), .string (⟨#[]⟩ : ByteArray), .int .i64 0, .int .i64 0, .int .i64 0, .int .i64 0, .int .i64 0]) ?_ 3 _ rfl; (with_reducible repeat (first | refine zh ?_ _ | refine zj ?_ | refine zg ?_ _)); refine zq (cs := #[.bool false, .string (⟨#[]⟩ : ByteArray), .string (⟨#[]⟩ : ByteArray), .int .i64 0, .int .i64 0, .int .i64 0, .int .i64 0, .int .i64 0]) ?_ 2 _ rfl; (with_reducible repeat (first | refine zh ?_ _ | refine zj ?_ | refine zg ?_ _)); refine zq (cs := #[.bool false, .string (⟨#[]⟩ : ByteArray), .string (⟨#[]⟩ : ByteArray), .int .i64 0, .int .i64 0, .int .i64 0, .int .i64 0, .int .i64 0]) ?_ 1 _ rfl; (with_reducible repeat (first | refine zh ?_ _ | refine zj ?_ | refine zg ?_ _)); refine zq (cs := #[.bool false, .string (⟨#[]⟩ : ByteArray), .string (⟨#[]⟩ : ByteArray), .int .i64 0, .int .i64 0, .int .i64 0, .int .i64 0, .int .i64 0]) ?_ 0 _ rfl; (with_reducible repeat (first | refine zh ?_ _ | refine zj ?_ | refine zg ?_ _)); exact zB.out⟩, ⟨by repeat (first | (with_reducible first | exact HB.out | apply zf | apply zc | apply ze | refine zk ?_ zJ.out | refine zk ?_ zK.out | refine zk ?_ zO.out) | exact HB.out)⟩⟩
           case rest =>
            clear HC22
            try clear c1
            try clear p1
            try clear q1
            try clear hx1
            try clear c2
            try clear c2b0
            try clear c2b1
            try clear p2
            try clear c3
            try clear c5
            try clear c5b0
            try clear c5b1
            try clear c6
            try clear p6
            try clear c7
            try clear c7b0
            try clear c7b1
            try clear c8
            try clear c8b0
            try clear c8b1
            try clear c13
            try clear c16
            try clear c16b0
            try clear p16
            try clear q16
            try clear hx16
            try clear c17
            try clear c17b0
            try clear c18
            try clear c20
            try clear c20b0
            try clear c21
            try clear c21b0
            try clear c24
            try clear c25
            try clear c26
            try clear c27
            try clear c27b0
            try clear c27b1
            try clear c31
            try clear c32
            try clear c33
            try clear c35
            try clear c36
            try clear zV
            try clear zW
            try clear zkb
            try clear zlb
            try clear zmb
            try clear zqb
            try clear zrb
            try clear zsb
            try clear ztb
            try clear zub
            try clear zvb
            try clear zwb
            try clear zxb
            try clear zGb
            try clear zHb
            try clear zIb
            try clear zJb
            try clear zKb
            try clear zLb
            try clear zMb
            try clear zUb
            try clear zVb
            try clear zWb
            try clear zXb
            try clear zYb
            try clear zZb
            try clear zac
            try clear zbc
            try clear zZ
            try clear zab
            try clear zbb
            try clear zX
            try clear zY
            try clear znb
            try clear zob
            try clear zpb
            try clear zyb
            try clear zzb
            try clear zAb
            try clear zBb
            try clear zCb
            try clear zDb
            try clear zEb
            try clear zFb
            try clear zNb
            try clear zOb
            try clear zPb
            try clear zQb
            try clear zRb
            try clear zSb
            try clear zTb
            try clear zcc
            try clear zdc
            try clear zec
            try clear zfc
            try clear zgc
            try clear zhc
            try clear zic
            try clear zjc
            try clear zcb
            try clear zdb
            try clear zeb
            try clear hx160_0
            try clear p160
            try clear p2
            try clear q160
            obtain ⟨kq, x8_21, x160001_21, x160002_21, x160003_21, x160004_21, x160005_21, x160006_21, x160007_21, rfl, HA, HJ21, zE, zC, zF, zB, HB⟩ := hcut
            cases kq with
            | zero => exact absurd HA.out (by simp [spec_DecodeTxn.j1])
            | succ kj21 =>
             have H := HA.out
             clear HA
             simp only [spec_DecodeTxn.j1] at H
             by_cases c38 : 0 ≤ x5_1
             ·rw [if_pos c38] at H
              have c38b0 : decide (0 ≤ x5_1) = true := decide_eq_true c38
              clear c38
              by_cases c39 : x5_1 < (l0.length : Int)
              ·rw [if_pos c39] at H
               have c39b0 : decide (x5_1 < (l0.length : Int)) = true := decide_eq_true c39
               clear c39
               by_cases c40 : (rd l0 x5_1) = 2
               ·rw [if_pos c40] at H
                have c40b0 : ((rd l0 x5_1) == 2) = true := beq_iff_eq.mpr c40
                have c40b1 : ((rd l0 x5_1) != 2) = false := bne_eq_false_iff_eq.mpr c40
                clear c40
                replace H := Option.bind_eq_some_iff.mp H
                obtain ⟨⟨t171, t172⟩, A410, H⟩ := H
                replace H : (if t172 < 0 then (some (false, 0, ([] : List (S55)))) else (if x156001_1.length < 1759218604441 then (spec_DecodeTxn.l0 kj21 l0 t157 t172 (wrap64 (x6_1 + 1)) t154 (x156001_1 ++ [(⟨true, (⟨t171, (⟨#[]⟩ : ByteArray), 0, 0, 0, 0, 0⟩ : S53)⟩ : S55)])) else (none))) = some (r1, r2, r3) := H
                have A41 := Aside0.mk A410
                clear A410
                by_cases c42 : t172 < 0
                ·rw [if_pos c42] at H
                 have c42b0 : decide (t172 < 0) = true := decide_eq_true c42
                 clear c42
                 simp only [Option.some.injEq, Prod.mk.injEq] at H
                 obtain ⟨rfl, rfl, rfl⟩ := H
                 have p170 : 0 ≤ (x5_1 : Int) := of_decide_eq_true (by first | (with_reducible assumption) | assumption)
                 have q170 : x5_1 < (l0.length : Int) := of_decide_eq_true (by first | (with_reducible assumption) | assumption)
                 obtain ⟨ad170, e170, hx170_0⟩ := Kd.at_int HR0.out x5_1 p170 q170
                 obtain rfl : ad160 = ad170 := (by injection e170)
                 replace hx170_0 := zb HB.out hx170_0
                 replace p170 := eq_true p170
                 replace q170 := eq_true q170
                 go_wp2_with (first | ((with_reducible refine zn (f := 28) rfl ?_); refine zz (some 59) rfl rfl Tryd.func28 (by kernel_rfl) rfl #[.slice (some ad160) l0.length c0, .int .i64 (wrap64 (x5_1 + 1))] rfl (by (try simp only [List.map_toArray, List.map_cons, List.map_nil]); first | done | rfl | (simp only [List.length_drop, List.length_take]; rfl)) ?_; (with_reducible refine (spec_l4ReadText.calls _ _ l0 (wrap64 (x5_1 + 1)) t171 t172 _ ?side1 ?side2 A41.out).mono ?_); (case side1 => repeat (first | exact (Kd.C_below HR0.out HB.out) | (with_reducible refine Kd.C_alloc ?_ _) | (with_reducible refine Kd.C_drewN ?_ _) | (with_reducible refine Kd.C_drew ?_))); (case side2 => exact HC0.out); rintro e w' ⟨rfl, ⟨nd, rfl⟩⟩; refine ⟨_, rfl, ?_⟩; (try (rw [drewN_self wc]; generalize hq_ : World.drewN wc _ = wc; have n0_ : Aside0 (Kd.R k55 55 wc w.heap.size (fun k_ => k_ ≠ zA) u156001 x156001_1) := ⟨by rw [← hq_]; exact (by (with_reducible repeat (first | apply Kd.R_alloc | apply Kd.R_drewN | apply Kd.R_drew)); exact zE.out)⟩; have n1_ : Aside0 (wc.heap[zH]? = some (.cells #[.bool x153000_1, .int .i64 x153001_1, .slice none 0 0] 27 (0, 0))) := ⟨by rw [← hq_]; exact (by (with_reducible repeat (first | refine zh ?_ _ | refine zj ?_ | refine zg ?_ _)); exact zC.out)⟩; have n2_ : Aside0 (wc.heap[zI]? = some (.cells #[.int .i64 t154, u156001] 25 (0, 0))) := ⟨by rw [← hq_]; exact (by (with_reducible repeat (first | refine zh ?_ _ | refine zj ?_ | refine zg ?_ _)); exact zF.out)⟩; have n3_ : Aside0 (wc.heap[zA]? = some (.cells #[.bool false, .string x160001_21, .string x160002_21, .int .i64 x160003_21, .int .i64 x160004_21, .int .i64 x160005_21, .int .i64 x160006_21, .int .i64 x160007_21] 55 (0, 0))) := ⟨by rw [← hq_]; exact (by (with_reducible repeat (first | refine zh ?_ _ | refine zj ?_ | refine zg ?_ _)); exact zB.out)⟩; have n4_ : Aside0 (Below w.heap.size w wc) := ⟨by rw [← hq_]; exact (by repeat (first | (with_reducible first | exact HB.out | apply zf | apply zc | apply ze | refine zk ?_ zJ.out | refine zk ?_ zK.out | refine zk ?_ zO.out) | exact HB.out))⟩; clear zE zC zF zB HB hq_; have zE := n0_; have zC := n1_; have zF := n2_; have zB := n3_; have HB := n4_; clear n0_ n1_ n2_ n3_ n4_)); have zFe := zT.out; have zGe := zD.out; have zHe := zU.out; have zIe := zG.out; have zlc : wc.cell? ⟨zA, 0, none⟩ = some (.bool false) := (zi zB.out 0).trans rfl; have zmc : wc.cell? ⟨zA, 1, none⟩ = some (.string x160001_21) := (zi zB.out 1).trans rfl; have znc : wc.cell? ⟨zA, 2, none⟩ = some (.string x160002_21) := (zi zB.out 2).trans rfl; have zoc : wc.cell? ⟨zA, 3, none⟩ = some (.int .i64 x160003_21) := (zi zB.out 3).trans rfl; have zpc : wc.cell? ⟨zA, 4, none⟩ = some (.int .i64 x160004_21) := (zi zB.out 4).trans rfl; have zqc : wc.cell? ⟨zA, 5, none⟩ = some (.int .i64 x160005_21) := (zi zB.out 5).trans rfl; have zrc : wc.cell? ⟨zA, 6, none⟩ = some (.int .i64 x160006_21) := (zi zB.out 6).trans rfl; have zsc : wc.cell? ⟨zA, 7, none⟩ = some (.int .i64 x160007_21) := (zi zB.out 7).trans rfl; have ztc := zd zB.out 0; have zuc := zd zB.out 1; have zvc := zd zB.out 2; have zwc := zd zB.out 3; have zxc := zd zB.out 4; have zyc := zd zB.out 5; have zzc := zd zB.out 6; have zAc := zd zB.out 7; have zJe := zL.out; have zKe := zN.out; have zBc : wc.cell? ⟨zH, 0, none⟩ = some (.bool x153000_1) := (zi zC.out 0).trans rfl; have zCc : wc.cell? ⟨zH, 1, none⟩ = some (.int .i64 x153001_1) := (zi zC.out 1).trans rfl; have zDc : wc.cell? ⟨zH, 2, none⟩ = some (.slice none 0 0) := (zi zC.out 2).trans rfl; have zEc := zd zC.out 0; have zFc := zd zC.out 1; have zGc := zd zC.out 2))
                 refine bodyPost_ret (results_cell_row rfl _ _ zH 27 #[.bool false, .int .i64 0, .slice none 0 0] (0, 0) _ rfl (by (with_reducible repeat (first | refine zh ?_ _ | refine zj ?_ | refine zg ?_ _)); refine zq (cs := #[.bool false, .int .i64 0, .slice none 0 0]) ?_ 2 _ rfl; (with_reducible repeat (first | refine zh ?_ _ | refine zj ?_ | refine zg ?_ _)); refine zq (cs := #[.bool false, .int .i64 x153001_1, .slice none 0 0]) ?_ 1 _ rfl; (with_reducible repeat (first | refine zh ?_ _ | refine zj ?_ | refine zg ?_ _)); refine zq (cs := #[.bool x153000_1, .int .i64 x153001_1, .slice none 0 0]) ?_ 0 _ rfl; (with_reducible repeat (first | refine zh ?_ _ | refine zj ?_ | refine zg ?_ _)); refine zo ?_ zD.out _; (with_reducible repeat (first | refine zh ?_ _ | refine zj ?_ | refine zg ?_ _)); refine zo ?_ zD.out _; (with_reducible repeat (first | refine zh ?_ _ | refine zj ?_ | refine zg ?_ _)); refine zo ?_ zD.out _; (with_reducible repeat (first | refine zh ?_ _ | refine zj ?_ | refine zg ?_ _)); refine zo ?_ zD.out _; (with_reducible repeat (first | refine zh ?_ _ | refine zj ?_ | refine zg ?_ _)); refine zo ?_ zD.out _; (with_reducible repeat (first | refine zh ?_ _ | refine zj ?_ | refine zg ?_ _)); refine zo ?_ zD.out _; (with_reducible repeat (first | refine zh ?_ _ | refine zj ?_ | refine zg ?_ _)); refine zo ?_ zD.out _; (with_reducible repeat (first | refine zh ?_ _ | refine zj ?_ | refine zg ?_ _)); refine zo ?_ zD.out _; (with_reducible repeat (first | refine zh ?_ _ | refine zj ?_ | refine zg ?_ _)); exact zC.out) Tryd.underlying27 rfl (by kernel_rfl)) rfl ?_
                 exact ⟨_, by first | rfl | (simp [errW_none, errW_some] <;> rfl) | (simp [*, errW_none, errW_some] <;> rfl), by first | exact Kd.R_nil _ _ _ _ _ | exact Kd.N_nil _ _ _ _ _ | exact Kd.V_nil _ _ _ _ _ | exact Kd.Q_nil _ _ _ _ _ | exact Kd.S_nil _ _ _ _ _, by repeat (first | (with_reducible first | exact HB.out | apply zf | apply zc | apply ze | refine zk ?_ zJ.out | refine zk ?_ zK.out | refine zk ?_ zO.out) | exact HB.out)⟩
                ·rw [if_neg c42] at H
                 have c42b0 : decide (t172 < 0) = false := decide_eq_false c42
                 clear c42
                 by_cases c48 : x156001_1.length < 1759218604441
                 ·rw [if_pos c48] at H
                  have LMc48 := Aside0.mk c48
                  clear c48
                  obtain ⟨y173, hy173⟩ : ∃ y_ : List (S55), y_ = (x156001_1 ++ [(⟨true, (⟨t171, (⟨#[]⟩ : ByteArray), 0, 0, 0, 0, 0⟩ : S53)⟩ : S55)]) := ⟨_, rfl⟩
                  replace H : (spec_DecodeTxn.l0 kj21 l0 t157 t172 (wrap64 (x6_1 + 1)) t154 y173) = some (r1, r2, r3) := by first | (rw [hy173]; with_reducible exact H) | (have H2_ := (Option.bind_some _ _).symm.trans H; rw [hy173]; with_reducible exact H2_) | (have H2_ := (Option.bind_some _ _).symm.trans H; with_reducible exact H2_) | with_reducible exact H | (rw [hy173]; exact H) | exact H
                  have Ny173 := Aside0.mk hy173
                  clear hy173
                  have H' := Aside0.mk H
                  clear H
                  have p170 : 0 ≤ (x5_1 : Int) := of_decide_eq_true (by first | (with_reducible assumption) | assumption)
                  have q170 : x5_1 < (l0.length : Int) := of_decide_eq_true (by first | (with_reducible assumption) | assumption)
                  obtain ⟨ad170, e170, hx170_0⟩ := Kd.at_int HR0.out x5_1 p170 q170
                  obtain rfl : ad160 = ad170 := (by injection e170)
                  replace hx170_0 := zb HB.out hx170_0
                  replace p170 := eq_true p170
                  replace q170 := eq_true q170
                  go_wp2_with (first | ((with_reducible refine zn (f := 28) rfl ?_); refine zz (some 59) rfl rfl Tryd.func28 (by kernel_rfl) rfl #[.slice (some ad160) l0.length c0, .int .i64 (wrap64 (x5_1 + 1))] rfl (by (try simp only [List.map_toArray, List.map_cons, List.map_nil]); first | done | rfl | (simp only [List.length_drop, List.length_take]; rfl)) ?_; (with_reducible refine (spec_l4ReadText.calls _ _ l0 (wrap64 (x5_1 + 1)) t171 t172 _ ?side1 ?side2 A41.out).mono ?_); (case side1 => repeat (first | exact (Kd.C_below HR0.out HB.out) | (with_reducible refine Kd.C_alloc ?_ _) | (with_reducible refine Kd.C_drewN ?_ _) | (with_reducible refine Kd.C_drew ?_))); (case side2 => exact HC0.out); rintro e w' ⟨rfl, ⟨nd, rfl⟩⟩; refine ⟨_, rfl, ?_⟩; (try (rw [drewN_self wc]; generalize hq_ : World.drewN wc _ = wc; have n0_ : Aside0 (Kd.R k55 55 wc w.heap.size (fun k_ => k_ ≠ zA) u156001 x156001_1) := ⟨by rw [← hq_]; exact (by (with_reducible repeat (first | apply Kd.R_alloc | apply Kd.R_drewN | apply Kd.R_drew)); exact zE.out)⟩; have n1_ : Aside0 (wc.heap[zH]? = some (.cells #[.bool x153000_1, .int .i64 x153001_1, .slice none 0 0] 27 (0, 0))) := ⟨by rw [← hq_]; exact (by (with_reducible repeat (first | refine zh ?_ _ | refine zj ?_ | refine zg ?_ _)); exact zC.out)⟩; have n2_ : Aside0 (wc.heap[zI]? = some (.cells #[.int .i64 t154, u156001] 25 (0, 0))) := ⟨by rw [← hq_]; exact (by (with_reducible repeat (first | refine zh ?_ _ | refine zj ?_ | refine zg ?_ _)); exact zF.out)⟩; have n3_ : Aside0 (wc.heap[zA]? = some (.cells #[.bool false, .string x160001_21, .string x160002_21, .int .i64 x160003_21, .int .i64 x160004_21, .int .i64 x160005_21, .int .i64 x160006_21, .int .i64 x160007_21] 55 (0, 0))) := ⟨by rw [← hq_]; exact (by (with_reducible repeat (first | refine zh ?_ _ | refine zj ?_ | refine zg ?_ _)); exact zB.out)⟩; have n4_ : Aside0 (Below w.heap.size w wc) := ⟨by rw [← hq_]; exact (by repeat (first | (with_reducible first | exact HB.out | apply zf | apply zc | apply ze | refine zk ?_ zJ.out | refine zk ?_ zK.out | refine zk ?_ zO.out) | exact HB.out))⟩; clear zE zC zF zB HB hq_; have zE := n0_; have zC := n1_; have zF := n2_; have zB := n3_; have HB := n4_; clear n0_ n1_ n2_ n3_ n4_)); have zLe := zT.out; have zMe := zD.out; have zNe := zU.out; have zOe := zG.out; have zHc : wc.cell? ⟨zA, 0, none⟩ = some (.bool false) := (zi zB.out 0).trans rfl; have zIc : wc.cell? ⟨zA, 1, none⟩ = some (.string x160001_21) := (zi zB.out 1).trans rfl; have zJc : wc.cell? ⟨zA, 2, none⟩ = some (.string x160002_21) := (zi zB.out 2).trans rfl; have zKc : wc.cell? ⟨zA, 3, none⟩ = some (.int .i64 x160003_21) := (zi zB.out 3).trans rfl; have zLc : wc.cell? ⟨zA, 4, none⟩ = some (.int .i64 x160004_21) := (zi zB.out 4).trans rfl; have zMc : wc.cell? ⟨zA, 5, none⟩ = some (.int .i64 x160005_21) := (zi zB.out 5).trans rfl; have zNc : wc.cell? ⟨zA, 6, none⟩ = some (.int .i64 x160006_21) := (zi zB.out 6).trans rfl; have zOc : wc.cell? ⟨zA, 7, none⟩ = some (.int .i64 x160007_21) := (zi zB.out 7).trans rfl; have zPc := zd zB.out 0; have zQc := zd zB.out 1; have zRc := zd zB.out 2; have zSc := zd zB.out 3; have zTc := zd zB.out 4; have zUc := zd zB.out 5; have zVc := zd zB.out 6; have zWc := zd zB.out 7; have zPe := zN.out; have zQe := zL.out; have zXc : wc.cell? ⟨zI, 0, none⟩ = some (.int .i64 t154) := (zi zF.out 0).trans rfl; have zYc : wc.cell? ⟨zI, 1, none⟩ = some (u156001) := (zi zF.out 1).trans rfl; have zZc := zd zF.out 0; have zad := zd zF.out 1) | ((with_reducible refine gate_builtin (b := .append) (xs := #[.tmp 70, .tmp 72]) rfl ?_); at_builtin; refine Kd.R_append k55 (w0 := w) w.heap.size rfl (.tmp 70) (.tmp 72) 23 55 (.agg #[(.bool false), (.string ⟨#[]⟩), (.string ⟨#[]⟩), (.int .i64 0), (.int .i64 0), (.int .i64 0), (.int .i64 0), (.int .i64 0)]) 80 rfl Tryd.underlying23 info55 rfl (by decide) (by omega) u156001 x156001_1 (⟨true, (⟨t171, (⟨#[]⟩ : ByteArray), 0, 0, 0, 0, 0⟩ : S53)⟩ : S55) [.bool true, .string t171, .string (⟨#[]⟩ : ByteArray), .int .i64 0, .int .i64 0, .int .i64 0, .int .i64 0, .int .i64 0] (fun k_ => k_ ≠ zA) (fun _ => False) rfl (by first | (go_simp; done) | (go_simp; rfl)) ?aP (fun _ hk => hk.elim) ?aF ?aO ?aB ?aS ?aL ?_; (case aP => exact k55_mkM _ _ _ (⟨true, (⟨t171, (⟨#[]⟩ : ByteArray), 0, 0, 0, 0, 0⟩ : S53)⟩ : S55)); (case aB => exact (by repeat (first | (with_reducible first | exact HB.out | apply zf | apply zc | apply ze | refine zk ?_ zJ.out | refine zk ?_ zK.out | refine zk ?_ zO.out) | exact HB.out))); (case aF => exact (fun k_ hk => Kd.freshB (g := zA) (o := .cells #[.bool true, .string t171, .string (⟨#[]⟩ : ByteArray), .int .i64 0, .int .i64 0, .int .i64 0, .int .i64 0, .int .i64 0] 55 (0, 0)) (by (with_reducible repeat (first | refine zh ?_ _ | refine zj ?_ | refine zg ?_ _)); refine zq (cs := #[.bool true, .string t171, .string (⟨#[]⟩ : ByteArray), .int .i64 0, .int .i64 0, .int .i64 0, .int .i64 0, .int .i64 x160007_21]) ?_ 7 _ rfl; (with_reducible repeat (first | refine zh ?_ _ | refine zj ?_ | refine zg ?_ _)); refine zq (cs := #[.bool true, .string t171, .string (⟨#[]⟩ : ByteArray), .int .i64 0, .int .i64 0, .int .i64 0, .int .i64 x160006_21, .int .i64 x160007_21]) ?_ 6 _ rfl; (with_reducible repeat (first | refine zh ?_ _ | refine zj ?_ | refine zg ?_ _)); refine zq (cs := #[.bool true, .string t171, .string (⟨#[]⟩ : ByteArray), .int .i64 0, .int .i64 0, .int .i64 x160005_21, .int .i64 x160006_21, .int .i64 x160007_21]) ?_ 5 _ rfl; (with_reducible repeat (first | refine zh ?_ _ | refine zj ?_ | refine zg ?_ _)); refine zq (cs := #[.bool true, .string t171, .string (⟨#[]⟩ : ByteArray), .int .i64 0, .int .i64 x160004_21, .int .i64 x160005_21, .int .i64 x160006_21, .int .i64 x160007_21]) ?_ 4 _ rfl; (with_reducible repeat (first | refine zh ?_ _ | refine zj ?_ | refine zg ?_ _)); refine zq (cs := #[.bool true, .string t171, .string (⟨#[]⟩ : ByteArray), .int .i64 x160003_21, .int .i64 x160004_21, .int .i64 x160005_21, .int .i64 x160006_21, .int .i64 x160007_21]) ?_ 3 _ rfl; (with_reducible repeat (first | refine zh ?_ _ | refine zj ?_ | refine zg ?_ _)); refine zq (cs := #[.bool true, .string t171, .string x160002_21, .int .i64 x160003_21, .int .i64 x160004_21, .int .i64 x160005_21, .int .i64 x160006_21, .int .i64 x160007_21]) ?_ 2 _ rfl; (with_reducible repeat (first | refine zh ?_ _ | refine zj ?_ | refine zg ?_ _)); refine zq (cs := #[.bool true, .string x160001_21, .string x160002_21, .int .i64 x160003_21, .int .i64 x160004_21, .int .i64 x160005_21, .int .i64 x160006_21, .int .i64 x160007_21]) ?_ 1 _ rfl; (with_reducible repeat (first | refine zh ?_ _ | refine zj ?_ | refine zg ?_ _)); refine zq (cs := #[.bool false, .string x160001_21, .string x160002_21, .int .i64 x160003_21, .int .i64 x160004_21, .int .i64 x160005_21, .int .i64 x160006_21, .int .i64 x160007_21]) ?_ 0 _ rfl; (with_reducible repeat (first | refine zh ?_ _ | refine zj ?_ | refine zg ?_ _)); exact zB.out) k_ hk)); (case aO => exact (by (with_reducible repeat (first | apply Kd.R_alloc | apply Kd.R_drewN | apply Kd.R_drew)); exact Kd.R_mono (Kd.R_far (p := ⟨zA, 7, none⟩) (Kd.R_far (p := ⟨zA, 6, none⟩) (Kd.R_far (p := ⟨zA, 5, none⟩) (Kd.R_far (p := ⟨zA, 4, none⟩) (Kd.R_far (p := ⟨zA, 3, none⟩) (Kd.R_far (p := ⟨zA, 2, none⟩) (Kd.R_far (p := ⟨zA, 1, none⟩) (Kd.R_far (p := ⟨zA, 0, none⟩) (Kd.R_mono zE.out (fun k_ hk => (⟨hk, hk⟩ : _ ∧ k_ ≠ zA))) (fun _ hk => hk.2) (.bool true)) (fun _ hk => hk.2) (.string t171)) (fun _ hk => hk.2) (.string (⟨#[]⟩ : ByteArray))) (fun _ hk => hk.2) (.int .i64 0)) (fun _ hk => hk.2) (.int .i64 0)) (fun _ hk => hk.2) (.int .i64 0)) (fun _ hk => hk.2) (.int .i64 0)) (fun _ hk => hk.2) (.int .i64 0)) (fun _ hk => hk.1))); (case aS => exact (zl (by repeat (first | (with_reducible first | exact HB.out | apply zf | apply zc | apply ze | refine zk ?_ zJ.out | refine zk ?_ zK.out | refine zk ?_ zO.out) | exact HB.out)))); (case aL => have := LMc48.out; omega); intro v174 w54 ho hb hg hat; rw [← Ny173.out] at ho; have n0_ := Aside0.mk (blk_grown (g := zH) (o := .cells #[.bool x153000_1, .int .i64 x153001_1, .slice none 0 0] 27 (0, 0)) (by (with_reducible repeat (first | refine zh ?_ _ | refine zj ?_ | refine zg ?_ _)); refine zo ?_ zD.out _; (with_reducible repeat (first | refine zh ?_ _ | refine zj ?_ | refine zg ?_ _)); refine zo ?_ zD.out _; (with_reducible repeat (first | refine zh ?_ _ | refine zj ?_ | refine zg ?_ _)); refine zo ?_ zD.out _; (with_reducible repeat (first | refine zh ?_ _ | refine zj ?_ | refine zg ?_ _)); refine zo ?_ zD.out _; (with_reducible repeat (first | refine zh ?_ _ | refine zj ?_ | refine zg ?_ _)); refine zo ?_ zD.out _; (with_reducible repeat (first | refine zh ?_ _ | refine zj ?_ | refine zg ?_ _)); refine zo ?_ zD.out _; (with_reducible repeat (first | refine zh ?_ _ | refine zj ?_ | refine zg ?_ _)); refine zo ?_ zD.out _; (with_reducible repeat (first | refine zh ?_ _ | refine zj ?_ | refine zg ?_ _)); refine zo ?_ zD.out _; (with_reducible repeat (first | refine zh ?_ _ | refine zj ?_ | refine zg ?_ _)); exact zC.out) hg (Kd.R_ne zE.out zC.out (by decide))); have n1_ := Aside0.mk (blk_grown (g := zI) (o := .cells #[.int .i64 t154, u156001] 25 (0, 0)) (by (with_reducible repeat (first | refine zh ?_ _ | refine zj ?_ | refine zg ?_ _)); refine zo ?_ zG.out _; (with_reducible repeat (first | refine zh ?_ _ | refine zj ?_ | refine zg ?_ _)); refine zo ?_ zG.out _; (with_reducible repeat (first | refine zh ?_ _ | refine zj ?_ | refine zg ?_ _)); refine zo ?_ zG.out _; (with_reducible repeat (first | refine zh ?_ _ | refine zj ?_ | refine zg ?_ _)); refine zo ?_ zG.out _; (with_reducible repeat (first | refine zh ?_ _ | refine zj ?_ | refine zg ?_ _)); refine zo ?_ zG.out _; (with_reducible repeat (first | refine zh ?_ _ | refine zj ?_ | refine zg ?_ _)); refine zo ?_ zG.out _; (with_reducible repeat (first | refine zh ?_ _ | refine zj ?_ | refine zg ?_ _)); refine zo ?_ zG.out _; (with_reducible repeat (first | refine zh ?_ _ | refine zj ?_ | refine zg ?_ _)); refine zo ?_ zG.out _; (with_reducible repeat (first | refine zh ?_ _ | refine zj ?_ | refine zg ?_ _)); exact zF.out) hg (Kd.R_ne zE.out zF.out (by decide))); have n2_ := Aside0.mk (blk_grown (g := zA) (o := .cells #[.bool true, .string t171, .string (⟨#[]⟩ : ByteArray), .int .i64 0, .int .i64 0, .int .i64 0, .int .i64 0, .int .i64 0] 55 (0, 0)) (by (with_reducible repeat (first | refine zh ?_ _ | refine zj ?_ | refine zg ?_ _)); refine zq (cs := #[.bool true, .string t171, .string (⟨#[]⟩ : ByteArray), .int .i64 0, .int .i64 0, .int .i64 0, .int .i64 0, .int .i64 x160007_21]) ?_ 7 _ rfl; (with_reducible repeat (first | refine zh ?_ _ | refine zj ?_ | refine zg ?_ _)); refine zq (cs := #[.bool true, .string t171, .string (⟨#[]⟩ : ByteArray), .int .i64 0, .int .i64 0, .int .i64 0, .int .i64 x160006_21, .int .i64 x160007_21]) ?_ 6 _ rfl; (with_reducible repeat (first | refine zh ?_ _ | refine zj ?_ | refine zg ?_ _)); refine zq (cs := #[.bool true, .string t171, .string (⟨#[]⟩ : ByteArray), .int .i64 0, .int .i64 0, .int .i64 x160005_21, .int .i64 x160006_21, .int .i64 x160007_21]) ?_ 5 _ rfl; (with_reducible repeat (first | refine zh ?_ _ | refine zj ?_ | refine zg ?_ _)); refine zq (cs := #[.bool true, .string t171, .string (⟨#[]⟩ : ByteArray), .int .i64 0, .int .i64 x160004_21, .int .i64 x160005_21, .int .i64 x160006_21, .int .i64 x160007_21]) ?_ 4 _ rfl; (with_reducible repeat (first | refine zh ?_ _ | refine zj ?_ | refine zg ?_ _)); refine zq (cs := #[.bool true, .string t171, .string (⟨#[]⟩ : ByteArray), .int .i64 x160003_21, .int .i64 x160004_21, .int .i64 x160005_21, .int .i64 x160006_21, .int .i64 x160007_21]) ?_ 3 _ rfl; (with_reducible repeat (first | refine zh ?_ _ | refine zj ?_ | refine zg ?_ _)); refine zq (cs := #[.bool true, .string t171, .string x160002_21, .int .i64 x160003_21, .int .i64 x160004_21, .int .i64 x160005_21, .int .i64 x160006_21, .int .i64 x160007_21]) ?_ 2 _ rfl; (with_reducible repeat (first | refine zh ?_ _ | refine zj ?_ | refine zg ?_ _)); refine zq (cs := #[.bool true, .string x160001_21, .string x160002_21, .int .i64 x160003_21, .int .i64 x160004_21, .int .i64 x160005_21, .int .i64 x160006_21, .int .i64 x160007_21]) ?_ 1 _ rfl; (with_reducible repeat (first | refine zh ?_ _ | refine zj ?_ | refine zg ?_ _)); refine zq (cs := #[.bool false, .string x160001_21, .string x160002_21, .int .i64 x160003_21, .int .i64 x160004_21, .int .i64 x160005_21, .int .i64 x160006_21, .int .i64 x160007_21]) ?_ 0 _ rfl; (with_reducible repeat (first | refine zh ?_ _ | refine zj ?_ | refine zg ?_ _)); exact zB.out) hg (Kd.R_away zE.out (fun _ hk => hk))); have n3_ := Aside0.mk (hb); have n4_ := Aside0.mk (ho); clear zC; clear zF; clear zB; clear HB; clear zE; have zC := n0_; have zF := n1_; have zB := n2_; have HB := n3_; have zib := n4_; clear n0_ n1_ n2_ n3_ n4_; clear ho hb hg hat; obtain ⟨Ao55, co55, eo55⟩ := Kd.R_slice zib.out; subst eo55; have zbd : w54.cell? ⟨zI, 0, none⟩ = some (.int .i64 t154) := (zi zF.out 0).trans rfl; have zcd : w54.cell? ⟨zI, 1, none⟩ = some (u156001) := (zi zF.out 1).trans rfl; have zdd := zd zF.out 0; have zed := zd zF.out 1))
                  go_roundg kj21
                  case measure => have := HK1.out; have := HJ21.out; omega
                  case rel => exact ⟨(t172), (wrap64 (x6_1 + 1)), (x153000_1), (x153001_1), (y173), (.slice Ao55 y173.length co55), (by first | rfl | (simp; done) | (simp [*]; done)), (by first | rfl | (simp; done) | (simp [*]; done)), H', ⟨by have := HK1.out; have := HJ21.out; omega⟩, ⟨by (with_reducible repeat (first | apply Kd.R_alloc | apply Kd.R_drewN | apply Kd.R_drew)); exact Kd.R_mono (Kd.R_far (p := ⟨zI, 1, none⟩) (Kd.R_types zib.out zF.out (by decide)) (fun _ hk => hk.2) (.slice Ao55 y173.length co55)) (fun _ hk => trivial)⟩, ⟨by (with_reducible repeat (first | refine zh ?_ _ | refine zj ?_ | refine zg ?_ _)); refine zo ?_ zL.out _; (with_reducible repeat (first | refine zh ?_ _ | refine zj ?_ | refine zg ?_ _)); exact zC.out⟩, ⟨by (with_reducible repeat (first | refine zh ?_ _ | refine zj ?_ | refine zg ?_ _)); refine zq (cs := #[.int .i64 t154, u156001]) ?_ 1 _ rfl; (with_reducible repeat (first | refine zh ?_ _ | refine zj ?_ | refine zg ?_ _)); exact zF.out⟩, ⟨by repeat (first | (with_reducible first | exact HB.out | apply zf | apply zc | apply ze | refine zk ?_ zJ.out | refine zk ?_ zK.out | refine zk ?_ zO.out) | exact HB.out)⟩⟩
                 ·rw [if_neg c48] at H
                  exact absurd H (by simp)
               ·rw [if_neg c40] at H
                have c40b0 : ((rd l0 x5_1) == 2) = false := beq_eq_false_iff_ne.mpr c40
                have c40b1 : ((rd l0 x5_1) != 2) = true := bne_iff_ne.mpr c40
                by_cases c57 : x8_21 < 0
                ·rw [if_pos c57] at H
                 have c57b0 : decide (x8_21 < 0) = true := decide_eq_true c57
                 clear c57
                 simp only [Option.some.injEq, Prod.mk.injEq] at H
                 obtain ⟨rfl, rfl, rfl⟩ := H
                 have p170 : 0 ≤ (x5_1 : Int) := of_decide_eq_true (by first | (with_reducible assumption) | assumption)
                 have q170 : x5_1 < (l0.length : Int) := of_decide_eq_true (by first | (with_reducible assumption) | assumption)
                 obtain ⟨ad170, e170, hx170_0⟩ := Kd.at_int HR0.out x5_1 p170 q170
                 obtain rfl : ad160 = ad170 := (by injection e170)
                 replace hx170_0 := zb HB.out hx170_0
                 replace p170 := eq_true p170
                 replace q170 := eq_true q170
                 have zRe := zL.out
                 have zSe := zN.out
                 have zTe := zD.out
                 have zUe := zT.out
                 have zfd : wc.cell? ⟨zH, 0, none⟩ = some (.bool x153000_1) := (zi zC.out 0).trans rfl
                 have zgd : wc.cell? ⟨zH, 1, none⟩ = some (.int .i64 x153001_1) := (zi zC.out 1).trans rfl
                 have zhd : wc.cell? ⟨zH, 2, none⟩ = some (.slice none 0 0) := (zi zC.out 2).trans rfl
                 have zid := zd zC.out 0
                 have zjd := zd zC.out 1
                 have zkd := zd zC.out 2
                 go_wp2
                 refine bodyPost_ret (results_cell_row rfl _ _ zH 27 #[.bool false, .int .i64 0, .slice none 0 0] (0, 0) _ rfl (by (with_reducible repeat (first | refine zh ?_ _ | refine zj ?_ | refine zg ?_ _)); refine zq (cs := #[.bool false, .int .i64 0, .slice none 0 0]) ?_ 2 _ rfl; (with_reducible repeat (first | refine zh ?_ _ | refine zj ?_ | refine zg ?_ _)); refine zq (cs := #[.bool false, .int .i64 x153001_1, .slice none 0 0]) ?_ 1 _ rfl; (with_reducible repeat (first | refine zh ?_ _ | refine zj ?_ | refine zg ?_ _)); refine zq (cs := #[.bool x153000_1, .int .i64 x153001_1, .slice none 0 0]) ?_ 0 _ rfl; (with_reducible repeat (first | refine zh ?_ _ | refine zj ?_ | refine zg ?_ _)); exact zC.out) Tryd.underlying27 rfl (by kernel_rfl)) rfl ?_
                 exact ⟨_, by first | rfl | (simp [errW_none, errW_some] <;> rfl) | (simp [*, errW_none, errW_some] <;> rfl), by first | exact Kd.R_nil _ _ _ _ _ | exact Kd.N_nil _ _ _ _ _ | exact Kd.V_nil _ _ _ _ _ | exact Kd.Q_nil _ _ _ _ _ | exact Kd.S_nil _ _ _ _ _, by repeat (first | (with_reducible first | exact HB.out | apply zf | apply zc | apply ze | refine zk ?_ zJ.out | refine zk ?_ zK.out | refine zk ?_ zO.out) | exact HB.out)⟩
                ·rw [if_neg c57] at H
                 have c57b0 : decide (x8_21 < 0) = false := decide_eq_false c57
                 clear c57
                 by_cases c61 : x156001_1.length < 1759218604441
                 ·rw [if_pos c61] at H
                  have LMc61 := Aside0.mk c61
                  clear c61
                  obtain ⟨y176, hy176⟩ : ∃ y_ : List (S55), y_ = (x156001_1 ++ [(⟨false, (⟨x160001_21, x160002_21, x160003_21, x160004_21, x160005_21, x160006_21, x160007_21⟩ : S53)⟩ : S55)]) := ⟨_, rfl⟩
                  replace H : (spec_DecodeTxn.l0 kj21 l0 t157 x8_21 (wrap64 (x6_1 + 1)) t154 y176) = some (r1, r2, r3) := by first | (rw [hy176]; with_reducible exact H) | (have H2_ := (Option.bind_some _ _).symm.trans H; rw [hy176]; with_reducible exact H2_) | (have H2_ := (Option.bind_some _ _).symm.trans H; with_reducible exact H2_) | with_reducible exact H | (rw [hy176]; exact H) | exact H
                  have Ny176 := Aside0.mk hy176
                  clear hy176
                  have H' := Aside0.mk H
                  clear H
                  have p170 : 0 ≤ (x5_1 : Int) := of_decide_eq_true (by first | (with_reducible assumption) | assumption)
                  have q170 : x5_1 < (l0.length : Int) := of_decide_eq_true (by first | (with_reducible assumption) | assumption)
                  obtain ⟨ad170, e170, hx170_0⟩ := Kd.at_int HR0.out x5_1 p170 q170
                  obtain rfl : ad160 = ad170 := (by injection e170)
                  replace hx170_0 := zb HB.out hx170_0
                  replace p170 := eq_true p170
                  replace q170 := eq_true q170
                  have zVe := zN.out
                  have zWe := zL.out
                  have zXe := zG.out
                  have zYe := zU.out
                  have zld : wc.cell? ⟨zI, 0, none⟩ = some (.int .i64 t154) := (zi zF.out 0).trans rfl
                  have zmd : wc.cell? ⟨zI, 1, none⟩ = some (u156001) := (zi zF.out 1).trans rfl
                  have znd := zd zF.out 0
                  have zod := zd zF.out 1
                  have zZe := zT.out
                  have zaf := zD.out
                  have zpd : wc.cell? ⟨zA, 0, none⟩ = some (.bool false) := (zi zB.out 0).trans rfl
                  have zqd : wc.cell? ⟨zA, 1, none⟩ = some (.string x160001_21) := (zi zB.out 1).trans rfl
                  have zrd : wc.cell? ⟨zA, 2, none⟩ = some (.string x160002_21) := (zi zB.out 2).trans rfl
                  have zsd : wc.cell? ⟨zA, 3, none⟩ = some (.int .i64 x160003_21) := (zi zB.out 3).trans rfl
                  have ztd : wc.cell? ⟨zA, 4, none⟩ = some (.int .i64 x160004_21) := (zi zB.out 4).trans rfl
                  have zud : wc.cell? ⟨zA, 5, none⟩ = some (.int .i64 x160005_21) := (zi zB.out 5).trans rfl
                  have zvd : wc.cell? ⟨zA, 6, none⟩ = some (.int .i64 x160006_21) := (zi zB.out 6).trans rfl
                  have zwd : wc.cell? ⟨zA, 7, none⟩ = some (.int .i64 x160007_21) := (zi zB.out 7).trans rfl
                  have zxd := zd zB.out 0
                  have zyd := zd zB.out 1
                  have zzd := zd zB.out 2
                  have zAd := zd zB.out 3
                  have zBd := zd zB.out 4
                  have zCd := zd zB.out 5
                  have zDd := zd zB.out 6
                  have zEd := zd zB.out 7
                  go_wp2_with (first | ((with_reducible refine gate_builtin (b := .append) (xs := #[.tmp 70, .tmp 72]) rfl ?_); at_builtin; refine Kd.R_append k55 (w0 := w) w.heap.size rfl (.tmp 70) (.tmp 72) 23 55 (.agg #[(.bool false), (.string ⟨#[]⟩), (.string ⟨#[]⟩), (.int .i64 0), (.int .i64 0), (.int .i64 0), (.int .i64 0), (.int .i64 0)]) 80 rfl Tryd.underlying23 info55 rfl (by decide) (by omega) u156001 x156001_1 (⟨false, (⟨x160001_21, x160002_21, x160003_21, x160004_21, x160005_21, x160006_21, x160007_21⟩ : S53)⟩ : S55) [.bool false, .string x160001_21, .string x160002_21, .int .i64 x160003_21, .int .i64 x160004_21, .int .i64 x160005_21, .int .i64 x160006_21, .int .i64 x160007_21] (fun k_ => k_ ≠ zA) (fun _ => False) rfl rfl ?aP (fun _ hk => hk.elim) ?aF ?aO ?aB ?aS ?aL ?_; (case aP => exact k55_mkM _ _ _ (⟨false, (⟨x160001_21, x160002_21, x160003_21, x160004_21, x160005_21, x160006_21, x160007_21⟩ : S53)⟩ : S55)); (case aB => exact (by repeat (first | (with_reducible first | exact HB.out | apply zf | apply zc | apply ze | refine zk ?_ zJ.out | refine zk ?_ zK.out | refine zk ?_ zO.out) | exact HB.out))); (case aF => exact (fun k_ hk => Kd.freshB (g := zA) (o := .cells #[.bool false, .string x160001_21, .string x160002_21, .int .i64 x160003_21, .int .i64 x160004_21, .int .i64 x160005_21, .int .i64 x160006_21, .int .i64 x160007_21] 55 (0, 0)) (by (with_reducible repeat (first | refine zh ?_ _ | refine zj ?_ | refine zg ?_ _)); exact zB.out) k_ hk)); (case aO => exact (by (with_reducible repeat (first | apply Kd.R_alloc | apply Kd.R_drewN | apply Kd.R_drew)); exact zE.out)); (case aS => exact (zl (by repeat (first | (with_reducible first | exact HB.out | apply zf | apply zc | apply ze | refine zk ?_ zJ.out | refine zk ?_ zK.out | refine zk ?_ zO.out) | exact HB.out)))); (case aL => have := LMc61.out; omega); intro v177 w67 ho hb hg hat; rw [← Ny176.out] at ho; have n0_ := Aside0.mk (blk_grown (g := zH) (o := .cells #[.bool x153000_1, .int .i64 x153001_1, .slice none 0 0] 27 (0, 0)) (by (with_reducible repeat (first | refine zh ?_ _ | refine zj ?_ | refine zg ?_ _)); exact zC.out) hg (Kd.R_ne zE.out zC.out (by decide))); have n1_ := Aside0.mk (blk_grown (g := zI) (o := .cells #[.int .i64 t154, u156001] 25 (0, 0)) (by (with_reducible repeat (first | refine zh ?_ _ | refine zj ?_ | refine zg ?_ _)); exact zF.out) hg (Kd.R_ne zE.out zF.out (by decide))); have n2_ := Aside0.mk (blk_grown (g := zA) (o := .cells #[.bool false, .string x160001_21, .string x160002_21, .int .i64 x160003_21, .int .i64 x160004_21, .int .i64 x160005_21, .int .i64 x160006_21, .int .i64 x160007_21] 55 (0, 0)) (by (with_reducible repeat (first | refine zh ?_ _ | refine zj ?_ | refine zg ?_ _)); exact zB.out) hg (Kd.R_away zE.out (fun _ hk => hk))); have n3_ := Aside0.mk (hb); have n4_ := Aside0.mk (ho); clear zC; clear zF; clear zB; clear HB; clear zE; have zC := n0_; have zF := n1_; have zB := n2_; have HB := n3_; have zjb := n4_; clear n0_ n1_ n2_ n3_ n4_; clear ho hb hg hat; obtain ⟨Ao68, co68, eo68⟩ := Kd.R_slice zjb.out; subst eo68; have zFd : w67.cell? ⟨zI, 0, none⟩ = some (.int .i64 t154) := (zi zF.out 0).trans rfl; have zGd : w67.cell? ⟨zI, 1, none⟩ = some (u156001) := (zi zF.out 1).trans rfl; have zHd := zd zF.out 0; have zId := zd zF.out 1))
                  go_roundg kj21
                  case measure => have := HK1.out; have := HJ21.out; omega
                  case rel => exact ⟨(x8_21), (wrap64 (x6_1 + 1)), (x153000_1), (x153001_1), (y176), (.slice Ao68 y176.length co68), (by first | rfl | (simp; done) | (simp [*]; done)), (by first | rfl | (simp; done) | (simp [*]; done)), H', ⟨by have := HK1.out; have := HJ21.out; omega⟩, ⟨by (with_reducible repeat (first | apply Kd.R_alloc | apply Kd.R_drewN | apply Kd.R_drew)); exact Kd.R_mono (Kd.R_far (p := ⟨zI, 1, none⟩) (Kd.R_types zjb.out zF.out (by decide)) (fun _ hk => hk.2) (.slice Ao68 y176.length co68)) (fun _ hk => trivial)⟩, ⟨by (with_reducible repeat (first | refine zh ?_ _ | refine zj ?_ | refine zg ?_ _)); refine zo ?_ zL.out _; (with_reducible repeat (first | refine zh ?_ _ | refine zj ?_ | refine zg ?_ _)); exact zC.out⟩, ⟨by (with_reducible repeat (first | refine zh ?_ _ | refine zj ?_ | refine zg ?_ _)); refine zq (cs := #[.int .i64 t154, u156001]) ?_ 1 _ rfl; (with_reducible repeat (first | refine zh ?_ _ | refine zj ?_ | refine zg ?_ _)); exact zF.out⟩, ⟨by repeat (first | (with_reducible first | exact HB.out | apply zf | apply zc | apply ze | refine zk ?_ zJ.out | refine zk ?_ zK.out | refine zk ?_ zO.out) | exact HB.out)⟩⟩
                 ·rw [if_neg c61] at H
                  exact absurd H (by simp)
              ·rw [if_neg c39] at H
               exact absurd H (by simp)
             ·rw [if_neg c38] at H
              exact absurd H (by simp)
          ·rw [if_neg c21] at H
           exact absurd H (by simp)
         ·rw [if_neg c20] at H
          exact absurd H (by simp)
       ·rw [if_neg c16] at H
        have c16b0 : decide (x6_1 < t157) = false := decide_eq_false c16
        clear c16
        by_cases c70 : x5_1 = (l0.length : Int)
        ·rw [if_pos c70] at H
         have c70b0 : (x5_1 == (l0.length : Int)) = true := beq_iff_eq.mpr c70
         have c70b1 : (x5_1 != (l0.length : Int)) = false := bne_eq_false_iff_eq.mpr c70
         clear c70
         replace H := Option.bind_eq_some_iff.mp H
         obtain ⟨t158, A710, H⟩ := H
         replace H : (if t158 = true then (some (true, t154, x156001_1)) else (some (false, 0, ([] : List (S55))))) = some (r1, r2, r3) := H
         have A71 := Aside0.mk A710
         clear A710
         by_cases c72 : t158 = true
         ·subst c72
          have H1 : (some (true, t154, x156001_1)) = some (r1, r2, r3) := by rw [if_pos rfl] at H; exact H
          clear H
          have H := H1
          clear H1
          simp only [Option.some.injEq, Prod.mk.injEq] at H
          obtain ⟨rfl, rfl, rfl⟩ := H
          have zbf := zN.out
          have zcf := zL.out
          have zJd : wr.cell? ⟨zI, 0, none⟩ = some (.int .i64 t154) := (zi zF.out 0).trans rfl
          have zKd : wr.cell? ⟨zI, 1, none⟩ = some (u156001) := (zi zF.out 1).trans rfl
          have zLd := zd zF.out 0
          have zMd := zd zF.out 1
          obtain ⟨Ao75, co75, eo75⟩ := Kd.R_slice zE.out
          subst eo75
          go_wp2_with (first | (go_at_call 29; (with_reducible refine (spec_ValidTxn.calls k1 t154 _ _ x156001_1 true _ ?side1 ?side2 A71.out).mono ?_); (case side1 => repeat (first | exact (Kd.R_reads' zE.out).2.2 | (with_reducible refine Kd.C_alloc ?_ _) | (with_reducible refine Kd.C_drewN ?_ _) | (with_reducible refine Kd.C_drew ?_))); (case side2 => exact (Kd.R_reads' zE.out).2.1); rintro e w76 ⟨rfl, hb⟩; have n0_ := Aside0.mk (Kd.R_below (by (with_reducible repeat (first | apply Kd.R_alloc | apply Kd.R_drewN | apply Kd.R_drew)); exact zE.out) hb); have n1_ := Aside0.mk (zt (g := zH) (o := .cells #[.bool x153000_1, .int .i64 x153001_1, .slice none 0 0] 27 (0, 0)) (by (with_reducible repeat (first | refine zh ?_ _ | refine zj ?_ | refine zg ?_ _)); exact zC.out) hb); have n2_ := Aside0.mk (zt (g := zI) (o := .cells #[.int .i64 t154, .slice Ao75 x156001_1.length co75] 25 (0, 0)) (by (with_reducible repeat (first | refine zh ?_ _ | refine zj ?_ | refine zg ?_ _)); exact zF.out) hb); have n3_ := Aside0.mk (zm (by repeat (first | (with_reducible first | exact HB.out | apply zf | apply zc | apply ze | refine zk ?_ zJ.out | refine zk ?_ zK.out) | exact HB.out)) hb); clear zE; clear zC; clear zF; clear HB; have zE := n0_; have zC := n1_; have zF := n2_; have HB := n3_; clear n0_ n1_ n2_ n3_; (try clear hb); (try clear hb2); (try clear hk); (try clear hi); have zNd : w76.cell? ⟨zI, 0, none⟩ = some (.int .i64 t154) := (zi zF.out 0).trans rfl; have zOd : w76.cell? ⟨zI, 1, none⟩ = some (.slice Ao75 x156001_1.length co75) := (zi zF.out 1).trans rfl; have zPd := zd zF.out 0; have zQd := zd zF.out 1; have zRd : w76.cell? ⟨zH, 0, none⟩ = some (.bool x153000_1) := (zi zC.out 0).trans rfl; have zSd : w76.cell? ⟨zH, 1, none⟩ = some (.int .i64 x153001_1) := (zi zC.out 1).trans rfl; have zTd : w76.cell? ⟨zH, 2, none⟩ = some (.slice none 0 0) := (zi zC.out 2).trans rfl; have zUd := zd zC.out 0; have zVd := zd zC.out 1; have zWd := zd zC.out 2))
          refine bodyPost_ret (results_cell_row rfl _ _ zH 27 #[.bool true, .int .i64 t154, .slice Ao75 x156001_1.length co75] (0, 0) _ rfl (by (with_reducible repeat (first | refine zh ?_ _ | refine zj ?_ | refine zg ?_ _)); refine zq (cs := #[.bool true, .int .i64 t154, .slice none 0 0]) ?_ 2 _ rfl; (with_reducible repeat (first | refine zh ?_ _ | refine zj ?_ | refine zg ?_ _)); refine zq (cs := #[.bool true, .int .i64 x153001_1, .slice none 0 0]) ?_ 1 _ rfl; (with_reducible repeat (first | refine zh ?_ _ | refine zj ?_ | refine zg ?_ _)); refine zq (cs := #[.bool x153000_1, .int .i64 x153001_1, .slice none 0 0]) ?_ 0 _ rfl; (with_reducible repeat (first | refine zh ?_ _ | refine zj ?_ | refine zg ?_ _)); exact zC.out) Tryd.underlying27 rfl (by kernel_rfl)) rfl ?_
          exact ⟨_, by first | rfl | (simp [errW_none, errW_some] <;> rfl) | (simp [*, errW_none, errW_some] <;> rfl), by (with_reducible repeat (first | apply Kd.R_alloc | apply Kd.R_drewN | apply Kd.R_drew)); exact Kd.R_mono (Kd.R_far (p := ⟨zH, 2, none⟩) (Kd.R_far (p := ⟨zH, 1, none⟩) (Kd.R_far (p := ⟨zH, 0, none⟩) (Kd.R_types zE.out zC.out (by decide)) (fun _ hk => hk.2) (.bool true)) (fun _ hk => hk.2) (.int .i64 t154)) (fun _ hk => hk.2) (.slice Ao75 x156001_1.length co75)) (fun _ hk => trivial), by repeat (first | (with_reducible first | exact HB.out | apply zf | apply zc | apply ze | refine zk ?_ zJ.out | refine zk ?_ zK.out) | exact HB.out)⟩
         ·replace c72 := Bool.eq_false_iff.mpr c72
          subst c72
          have H1 : (some (false, 0, ([] : List (S55)))) = some (r1, r2, r3) := by rw [if_neg (show ¬ (false = true) by decide)] at H; exact H
          clear H
          have H := H1
          clear H1
          simp only [Option.some.injEq, Prod.mk.injEq] at H
          obtain ⟨rfl, rfl, rfl⟩ := H
          have zdf := zN.out
          have zef := zL.out
          have zXd : wr.cell? ⟨zI, 0, none⟩ = some (.int .i64 t154) := (zi zF.out 0).trans rfl
          have zYd : wr.cell? ⟨zI, 1, none⟩ = some (u156001) := (zi zF.out 1).trans rfl
          have zZd := zd zF.out 0
          have zae := zd zF.out 1
          obtain ⟨Ao81, co81, eo81⟩ := Kd.R_slice zE.out
          subst eo81
          go_wp2_with (first | (go_at_call 29; (with_reducible refine (spec_ValidTxn.calls k1 t154 _ _ x156001_1 false _ ?side1 ?side2 A71.out).mono ?_); (case side1 => repeat (first | exact (Kd.R_reads' zE.out).2.2 | (with_reducible refine Kd.C_alloc ?_ _) | (with_reducible refine Kd.C_drewN ?_ _) | (with_reducible refine Kd.C_drew ?_))); (case side2 => exact (Kd.R_reads' zE.out).2.1); rintro e w82 ⟨rfl, hb⟩; have n0_ := Aside0.mk (Kd.R_below (by (with_reducible repeat (first | apply Kd.R_alloc | apply Kd.R_drewN | apply Kd.R_drew)); exact zE.out) hb); have n1_ := Aside0.mk (zt (g := zH) (o := .cells #[.bool x153000_1, .int .i64 x153001_1, .slice none 0 0] 27 (0, 0)) (by (with_reducible repeat (first | refine zh ?_ _ | refine zj ?_ | refine zg ?_ _)); exact zC.out) hb); have n2_ := Aside0.mk (zt (g := zI) (o := .cells #[.int .i64 t154, .slice Ao81 x156001_1.length co81] 25 (0, 0)) (by (with_reducible repeat (first | refine zh ?_ _ | refine zj ?_ | refine zg ?_ _)); exact zF.out) hb); have n3_ := Aside0.mk (zm (by repeat (first | (with_reducible first | exact HB.out | apply zf | apply zc | apply ze | refine zk ?_ zJ.out | refine zk ?_ zK.out) | exact HB.out)) hb); clear zE; clear zC; clear zF; clear HB; have zE := n0_; have zC := n1_; have zF := n2_; have HB := n3_; clear n0_ n1_ n2_ n3_; (try clear hb); (try clear hb2); (try clear hk); (try clear hi); have zbe : w82.cell? ⟨zH, 0, none⟩ = some (.bool x153000_1) := (zi zC.out 0).trans rfl; have zce : w82.cell? ⟨zH, 1, none⟩ = some (.int .i64 x153001_1) := (zi zC.out 1).trans rfl; have zde : w82.cell? ⟨zH, 2, none⟩ = some (.slice none 0 0) := (zi zC.out 2).trans rfl; have zee := zd zC.out 0; have zfe := zd zC.out 1; have zge := zd zC.out 2))
          refine bodyPost_ret (results_cell_row rfl _ _ zH 27 #[.bool false, .int .i64 0, .slice none 0 0] (0, 0) _ rfl (by (with_reducible repeat (first | refine zh ?_ _ | refine zj ?_ | refine zg ?_ _)); refine zq (cs := #[.bool false, .int .i64 0, .slice none 0 0]) ?_ 2 _ rfl; (with_reducible repeat (first | refine zh ?_ _ | refine zj ?_ | refine zg ?_ _)); refine zq (cs := #[.bool false, .int .i64 x153001_1, .slice none 0 0]) ?_ 1 _ rfl; (with_reducible repeat (first | refine zh ?_ _ | refine zj ?_ | refine zg ?_ _)); refine zq (cs := #[.bool x153000_1, .int .i64 x153001_1, .slice none 0 0]) ?_ 0 _ rfl; (with_reducible repeat (first | refine zh ?_ _ | refine zj ?_ | refine zg ?_ _)); exact zC.out) Tryd.underlying27 rfl (by kernel_rfl)) rfl ?_
          exact ⟨_, by first | rfl | (simp [errW_none, errW_some] <;> rfl) | (simp [*, errW_none, errW_some] <;> rfl), by first | exact Kd.R_nil _ _ _ _ _ | exact Kd.N_nil _ _ _ _ _ | exact Kd.V_nil _ _ _ _ _ | exact Kd.Q_nil _ _ _ _ _ | exact Kd.S_nil _ _ _ _ _, by repeat (first | (with_reducible first | exact HB.out | apply zf | apply zc | apply ze | refine zk ?_ zJ.out | refine zk ?_ zK.out) | exact HB.out)⟩
        ·rw [if_neg c70] at H
         have c70b0 : (x5_1 == (l0.length : Int)) = false := beq_eq_false_iff_ne.mpr c70
         have c70b1 : (x5_1 != (l0.length : Int)) = true := bne_iff_ne.mpr c70
         simp only [Option.some.injEq, Prod.mk.injEq] at H
         obtain ⟨rfl, rfl, rfl⟩ := H
         have zff := zL.out
         have zgf := zN.out
         have zhe : wr.cell? ⟨zH, 0, none⟩ = some (.bool x153000_1) := (zi zC.out 0).trans rfl
         have zie : wr.cell? ⟨zH, 1, none⟩ = some (.int .i64 x153001_1) := (zi zC.out 1).trans rfl
         have zje : wr.cell? ⟨zH, 2, none⟩ = some (.slice none 0 0) := (zi zC.out 2).trans rfl
         have zke := zd zC.out 0
         have zle := zd zC.out 1
         have zme := zd zC.out 2
         go_wp2
         refine bodyPost_ret (results_cell_row rfl _ _ zH 27 #[.bool false, .int .i64 0, .slice none 0 0] (0, 0) _ rfl (by (with_reducible repeat (first | refine zh ?_ _ | refine zj ?_ | refine zg ?_ _)); refine zq (cs := #[.bool false, .int .i64 0, .slice none 0 0]) ?_ 2 _ rfl; (with_reducible repeat (first | refine zh ?_ _ | refine zj ?_ | refine zg ?_ _)); refine zq (cs := #[.bool false, .int .i64 x153001_1, .slice none 0 0]) ?_ 1 _ rfl; (with_reducible repeat (first | refine zh ?_ _ | refine zj ?_ | refine zg ?_ _)); refine zq (cs := #[.bool x153000_1, .int .i64 x153001_1, .slice none 0 0]) ?_ 0 _ rfl; (with_reducible repeat (first | refine zh ?_ _ | refine zj ?_ | refine zg ?_ _)); exact zC.out) Tryd.underlying27 rfl (by kernel_rfl)) rfl ?_
         exact ⟨_, by first | rfl | (simp [errW_none, errW_some] <;> rfl) | (simp [*, errW_none, errW_some] <;> rfl), by first | exact Kd.R_nil _ _ _ _ _ | exact Kd.N_nil _ _ _ _ _ | exact Kd.V_nil _ _ _ _ _ | exact Kd.Q_nil _ _ _ _ _ | exact Kd.S_nil _ _ _ _ _, by repeat (first | (with_reducible first | exact HB.out | apply zf | apply zc | apply ze | refine zk ?_ zJ.out | refine zk ?_ zK.out) | exact HB.out)⟩
    ·rw [if_neg c8] at H
     exact absurd H (by simp)
   ·rw [if_neg c7] at H
    exact absurd H (by simp)
  ·rw [if_neg c5] at H
   exact absurd H (by simp)

def laws_toByteS.l0 : Nat → List Int → List Int → Int → Option (List Int)
 | 0, _, _, _ => none
 | k + 1, x0, x3, x4 => if x4 < (x0.length : Int) then (if 0 ≤ x4 then (if x4 < (x3.length : Int) then (laws_toByteS.l0 k x0 (x3.set (x4 : Int).toNat (rd x0 x4)) (wrap64 (x4 + 1))) else (none)) else (none)) else (some x3)
def laws_toByteS.f (k : Nat) (l0 : List Int) : Option (List Int) := if 0 ≤ (l0.length : Int) then (if ((l0.length : Int) : Int).toNat ≤ 281474976710656 then (laws_toByteS.l0 k l0 (List.replicate ((l0.length : Int) : Int).toNat 0) 0) else (none)) else (none)
theorem laws_toByteS.mono_l : ∀ k, (∀ y0 y1 y2, LeO (laws_toByteS.l0 k y0 y1 y2) (laws_toByteS.l0 (k + 1) y0 y1 y2))
 | 0 => fun _ _ _ r h => by simp [laws_toByteS.l0] at h
 | k + 1 => by
  have ih0 := laws_toByteS.mono_l k
  ·intro y0 y1 y2
   unfold laws_toByteS.l0
   repeat' first
   | (with_reducible exact ih0 _ _ _)
   | (with_reducible exact LeO.refl _)
   | (with_reducible exact LeO.none _)
   | (with_reducible refine LeO.ite ?_ ?_)
   | (with_reducible refine LeO.bind ?_ (fun _ => ?_))
   | exact ih0 _ _ _
   | exact LeO.none _
   | refine LeO.ite ?_ ?_
   | refine LeO.bind ?_ (fun _ => ?_)
theorem laws_toByteS.mono : ∀ a0 k, LeO (laws_toByteS.f k a0) (laws_toByteS.f (k + 1) a0) := by
 intro a0 k
 have ih0 := laws_toByteS.mono_l k
 unfold laws_toByteS.f
 repeat' first
   | (with_reducible exact ih0 _ _ _)
   | (with_reducible exact LeO.refl _)
   | (with_reducible exact LeO.none _)
   | (with_reducible refine LeO.ite ?_ ?_)
   | (with_reducible refine LeO.bind ?_ (fun _ => ?_))
   | exact ih0 _ _ _
   | exact LeO.none _
   | refine LeO.ite ?_ ?_
   | refine LeO.bind ?_ (fun _ => ?_)
set_option maxHeartbeats 8000000 in
set_option maxRecDepth 100000 in
theorem laws_toByteS.calls (k : Nat) (A0 : Option Addr) (c0 : Nat) (l0 : List Int) (r : List Int) (w : World) (hr0 : Kd.C (Kd.int .u8) w A0 l0.length l0) (hc0 : l0.length ≤ c0) (h : laws_toByteS.f k l0 = some r) :
  Calls Tryd.prog 7 #[.slice A0 l0.length c0] w fun e w' => ∃ v0_ : Value, e = .returned (v0_) ∧ Kd.R (Kd.int .u8) 5 w' w.heap.size (fun _ => True) v0_ r ∧ Below w.heap.size w w' := by
 have HR0 := Aside0.mk hr0
 have HC0 := Aside0.mk hc0
 clear hr0 hc0
 have HB := Aside0.mk (Below.refl w.heap.size w)
 have H : (if 0 ≤ (l0.length : Int) then (if ((l0.length : Int) : Int).toNat ≤ 281474976710656 then (laws_toByteS.l0 k l0 (List.replicate ((l0.length : Int) : Int).toNat 0) 0) else (none)) else (none)) = some r := h
 clear h
 by_cases c2 : 0 ≤ (l0.length : Int)
 ·rw [if_pos c2] at H
  have c2b0 := eq_true c2
  have c2b1 : decide (0 ≤ (l0.length : Int)) = true := decide_eq_true c2
  clear c2
  by_cases c3 : ((l0.length : Int) : Int).toNat ≤ 281474976710656
  ·rw [if_pos c3] at H
   have c3b0 := eq_true c3
   have c3b1 : decide (((l0.length : Int) : Int).toNat ≤ 281474976710656) = true := decide_eq_true c3
   clear c3
   obtain ⟨y179, hy179⟩ : ∃ y_ : List Int, y_ = (List.replicate ((l0.length : Int) : Int).toNat 0) := ⟨_, rfl⟩
   replace H : (laws_toByteS.l0 k l0 y179 0) = some r := by first | (rw [hy179]; with_reducible exact H) | (have H2_ := (Option.bind_some _ _).symm.trans H; rw [hy179]; with_reducible exact H2_) | (have H2_ := (Option.bind_some _ _).symm.trans H; with_reducible exact H2_) | with_reducible exact H | (rw [hy179]; exact H) | exact H
   have Ny179 := Aside0.mk hy179
   clear hy179
   have H' := Aside0.mk H
   clear H
   go_enter Tryd.func7, Tryd.ntmps7
   go_wp2_with (first | ((with_reducible refine zw (N := 7) rfl ?_); refine Kd.R_make (Kd.int .u8) _ 5 rfl (N := 7) rfl 22 _ _ rfl (l0.length : Int) rfl rfl Tryd.underlying22 (.int .u8 0) 1 info5 rfl (by decide) (by omega) 0 (ok := fun _ => True) (okp := fun _ => True) rfl (fun _ hk => hk) trivial (of_decide_eq_true (by first | (with_reducible assumption) | assumption)) (Nat.le_trans (Nat.mul_le_mul_right _ (of_decide_eq_true (by first | (with_reducible assumption) | assumption) : (l0.length : Int).toNat ≤ 281474976710656)) (by omega)) (Below.refl _ _) (Nat.le_refl _) ?_; intro v180 w4 zB hb hg_ hnew_; clear hg_ hnew_; (first | rw [← Ny179.out] at zB | (simp only [Int.reduceToNat] at zB; rw [← Ny179.out] at zB)); have n0_ := Aside0.mk (Kd.R_lower zB (zl (by repeat (first | (with_reducible first | exact HB.out | apply zf | apply zc | apply ze) | exact HB.out)))); have n1_ := Aside0.mk (zm (by repeat (first | (with_reducible first | exact HB.out | apply zf | apply zc | apply ze) | exact HB.out)) hb); clear HB; have zC := n0_; have HB := n1_; clear n0_ n1_; clear hb zB))
   go_loopg [4] k (fun kq v4 w' => ∃ (x3_1 : List Int) (x4_1 : Int), v4 = .int .i64 x4_1 ∧ Aside0 (laws_toByteS.l0 kq l0 x3_1 x4_1 = some r) ∧ Aside0 (kq ≤ k) ∧ Aside0 (Kd.R (Kd.int .u8) 5 w' w.heap.size (fun _ => True) v180 x3_1) ∧ Aside0 (Below w.heap.size w w'))
   case atStart => exact ⟨(y179), (0), (by first | rfl | (simp; done) | (simp [*]; done)), H', ⟨Nat.le_refl _⟩, ⟨by (with_reducible repeat (first | apply Kd.R_alloc | apply Kd.R_drewN | apply Kd.R_drew)); exact zC.out⟩, ⟨by repeat (first | (with_reducible first | exact HB.out | apply zf | apply zc | apply ze) | exact HB.out)⟩⟩
   case round =>
    clear H'
    try clear c2
    try clear c2b0
    try clear c2b1
    try clear p2
    try clear c3
    try clear c3b0
    try clear c3b1
    obtain ⟨x3_1, x4_1, rfl, HA, HK1, zA, HB⟩ := hrel
    cases gk with
    | zero => exact absurd HA.out (by simp [laws_toByteS.l0])
    | succ k1 =>
     have H := HA.out
     clear HA
     simp only [laws_toByteS.l0] at H
     by_cases c6 : x4_1 < (l0.length : Int)
     ·rw [if_pos c6] at H
      have c6b0 : decide (x4_1 < (l0.length : Int)) = true := decide_eq_true c6
      clear c6
      by_cases c7 : 0 ≤ x4_1
      ·rw [if_pos c7] at H
       have c7b0 : decide (0 ≤ x4_1) = true := decide_eq_true c7
       clear c7
       by_cases c8 : x4_1 < (x3_1.length : Int)
       ·rw [if_pos c8] at H
        have c8b0 : decide (x4_1 < (x3_1.length : Int)) = true := decide_eq_true c8
        clear c8
        obtain ⟨y183, hy183⟩ : ∃ y_ : List Int, y_ = (x3_1.set (x4_1 : Int).toNat (rd l0 x4_1)) := ⟨_, rfl⟩
        replace H : (laws_toByteS.l0 k1 l0 y183 (wrap64 (x4_1 + 1))) = some r := by first | (rw [hy183]; with_reducible exact H) | (have H2_ := (Option.bind_some _ _).symm.trans H; rw [hy183]; with_reducible exact H2_) | (have H2_ := (Option.bind_some _ _).symm.trans H; with_reducible exact H2_) | with_reducible exact H | (rw [hy183]; exact H) | exact H
        have Ny183 := Aside0.mk hy183
        clear hy183
        have H' := Aside0.mk H
        clear H
        have p182 : 0 ≤ (x4_1 : Int) := of_decide_eq_true (by first | (with_reducible assumption) | assumption)
        have q182 : x4_1 < (l0.length : Int) := of_decide_eq_true (by first | (with_reducible assumption) | assumption)
        obtain ⟨ad182, e182, hx182_0⟩ := Kd.at_int HR0.out x4_1 p182 q182
        cases e182
        replace hx182_0 := zb HB.out hx182_0
        replace p182 := eq_true p182
        replace q182 := eq_true q182
        have p9 : 0 ≤ (x4_1 : Int) := of_decide_eq_true (by first | (with_reducible assumption) | assumption)
        have q9 : (x4_1 : Int) < ((x3_1.length : Int) : Int) := of_decide_eq_true (by first | (with_reducible assumption) | assumption)
        obtain ⟨go9, co9, eo9, zD, gl9, cl9, HG9⟩ := Kd.R_form zA.out (by omega)
        (first | cases eo9 | (injection eo9 with ea_ en_ ec_; (first | subst ea_ | (injection ea_ with ea_; subst ea_)); subst ec_; clear en_))
        have GB9 := Aside0.mk zD
        have GG9 := Aside0.mk HG9
        clear zD gl9 HG9
        obtain ⟨hx9_0, hf9_0⟩ := Kd.R_celln 0 zA.out (x4_1 : Int) p9 q9
        replace p9 := eq_true p9
        replace q9 := eq_true q9
        have HP10 := Kd.R_putg zA.out (x4_1 : Int) (rd l0 x4_1)
        go_wp2_with (first | ((with_reducible refine gate_store (t := 5) (p := 20) rfl ?_); refine store_event (t := 5) (p := 20) (v := ?vo_w11) (w1 := (wr.setCell ⟨go9, (x4_1 : Int).toNat, none⟩ (.int .u8 (rd l0 x4_1)))) ?hg ?ho ?hn ?hr ?_; (case ho => rfl); (case hg => rfl); (case hn => rfl); (case hr => first | (go_simp; done) | (go_simp; rfl)); intro w11 hw; have hg : wr.grownBy w11 (some go9) := (by rw [hw]; exact HP10.2); have hp_ : Kd.R (Kd.int .u8) 5 w11 w.heap.size (fun _ => True) (.slice (some ⟨go9, 0, none⟩) x3_1.length co9) y183 := (by rw [hw, Ny183.out]; exact HP10.1); clear HP10; have n0_ := Aside0.mk (hp_); have n1_ := Aside0.mk ((by rw [hw]; exact zk (HB.out) GB9.out : Below w.heap.size w w11)); clear zA; clear HB; have zA := n0_; have HB := n1_; clear n0_ n1_; clear hg hw hp_))
        go_roundg k1
        case measure => have := HK1.out; omega
        case rel => exact ⟨(y183), (wrap64 (x4_1 + 1)), (by first | rfl | (simp; done) | (simp [*]; done)), H', ⟨by have := HK1.out; omega⟩, ⟨by (with_reducible repeat (first | apply Kd.R_alloc | apply Kd.R_drewN | apply Kd.R_drew)); exact zA.out⟩, ⟨by repeat (first | (with_reducible first | exact HB.out | apply zf | apply zc | apply ze) | exact HB.out)⟩⟩
       ·rw [if_neg c8] at H
        exact absurd H (by simp)
      ·rw [if_neg c7] at H
       exact absurd H (by simp)
     ·rw [if_neg c6] at H
      have c6b0 : decide (x4_1 < (l0.length : Int)) = false := decide_eq_false c6
      clear c6
      obtain rfl := Option.some.inj H
      go_wp2
      go_ret
      exact ⟨_, by first | rfl | (simp [errW_none, errW_some] <;> rfl) | (simp [*, errW_none, errW_some] <;> rfl), by (with_reducible repeat (first | apply Kd.R_alloc | apply Kd.R_drewN | apply Kd.R_drew)); exact zA.out, by repeat (first | (with_reducible first | exact HB.out | apply zf | apply zc | apply ze) | exact HB.out)⟩
  ·rw [if_neg c3] at H
   exact absurd H (by simp)
 ·rw [if_neg c2] at H
  exact absurd H (by simp)

def stringslite_HasPrefix.f (a0 : ByteArray) (a1 : ByteArray) : Option (Bool) := if (a0.size : Int) ≥ (a1.size : Int) then (if 0 ≤ (a1.size : Int) then (if (a1.size : Int) ≤ (a0.size : Int) then (some ((a0.extract 0 ((a1.size : Int) : Int).toNat).toList == a1.toList)) else (none)) else (none)) else (some false)
set_option maxHeartbeats 8000000 in
set_option maxRecDepth 100000 in
theorem stringslite_HasPrefix.calls (a0 : ByteArray) (a1 : ByteArray) (r : Bool) (w : World) (h : stringslite_HasPrefix.f a0 a1 = some r) :
  Calls Tryd.prog 91 #[.string a0, .string a1] w fun e w' => e = .returned (.bool r) ∧ Drawn0 w w' := by
 have H : (if (a0.size : Int) ≥ (a1.size : Int) then (if 0 ≤ (a1.size : Int) then (if (a1.size : Int) ≤ (a0.size : Int) then (some ((a0.extract 0 ((a1.size : Int) : Int).toNat).toList == a1.toList)) else (none)) else (none)) else (some false)) = some r := h
 clear h
 by_cases c3 : (a0.size : Int) ≥ (a1.size : Int)
 ·rw [if_pos c3] at H
  have c3b0 : decide ((a1.size : Int) ≤ (a0.size : Int)) = true := decide_eq_true c3
  have c3b1 : decide (a1.size ≤ a0.size) = true := decide_eq_true (Int.ofNat_le.mp c3)
  clear c3
  by_cases c4 : 0 ≤ (a1.size : Int)
  ·rw [if_pos c4] at H
   have c4b0 := eq_true c4
   have c4b1 : decide (0 ≤ (a1.size : Int)) = true := decide_eq_true c4
   clear c4
   by_cases c5 : (a1.size : Int) ≤ (a0.size : Int)
   ·rw [if_pos c5] at H
    have c5b0 := eq_true c5
    have c5b1 : decide ((a1.size : Int) ≤ (a0.size : Int)) = true := decide_eq_true c5
    clear c5
    obtain rfl := Option.some.inj H
    go_enter Tryd.func91, Tryd.ntmps91
    go_wp2
    go_ret
    exact ⟨by first | rfl | (simp; done) | (simp [*]; done), by repeat (first | exact Drawn0.refl _ | apply Drawn0.step)⟩
   ·rw [if_neg c5] at H
    exact absurd H (by simp)
  ·rw [if_neg c4] at H
   exact absurd H (by simp)
 ·rw [if_neg c3] at H
  have c3b0 : decide ((a1.size : Int) ≤ (a0.size : Int)) = false := decide_eq_false c3
  have c3b1 : decide (a1.size ≤ a0.size) = false := decide_eq_false (fun h => c3 (Int.ofNat_le.mpr h))
  clear c3
  obtain rfl := Option.some.inj H
  go_enter Tryd.func91, Tryd.ntmps91
  go_wp2
  go_ret
  exact ⟨by first | rfl | (simp; done) | (simp [*]; done), by repeat (first | exact Drawn0.refl _ | apply Drawn0.step)⟩

def stringslite_CutPrefix.f (a0 : ByteArray) (a1 : ByteArray) : Option (ByteArray × Bool) := (stringslite_HasPrefix.f a0 a1).bind fun t184 => (if t184 = true then (if 0 ≤ (a1.size : Int) then (if (a1.size : Int) ≤ (a0.size : Int) then (some (a0.extract ((a1.size : Int) : Int).toNat a0.size, true)) else (none)) else (none)) else (some (a0, false)))
set_option maxHeartbeats 8000000 in
set_option maxRecDepth 100000 in
theorem stringslite_CutPrefix.calls (a0 : ByteArray) (a1 : ByteArray) (r1 : ByteArray) (r2 : Bool) (w : World) (h : stringslite_CutPrefix.f a0 a1 = some (r1, r2)) :
  Calls Tryd.prog 77 #[.string a0, .string a1] w fun e w' => e = .returned (.tuple #[.string r1, .bool r2]) ∧ Drawn0 w w' := by
 have H : ((stringslite_HasPrefix.f a0 a1).bind fun t184 => (if t184 = true then (if 0 ≤ (a1.size : Int) then (if (a1.size : Int) ≤ (a0.size : Int) then (some (a0.extract ((a1.size : Int) : Int).toNat a0.size, true)) else (none)) else (none)) else (some (a0, false)))) = some (r1, r2) := h
 clear h
 replace H := Option.bind_eq_some_iff.mp H
 obtain ⟨t184, A30, H⟩ := H
 replace H : (if t184 = true then (if 0 ≤ (a1.size : Int) then (if (a1.size : Int) ≤ (a0.size : Int) then (some (a0.extract ((a1.size : Int) : Int).toNat a0.size, true)) else (none)) else (none)) else (some (a0, false))) = some (r1, r2) := H
 have A3 := Aside0.mk A30
 clear A30
 by_cases c4 : t184 = true
 ·subst c4
  have H1 : (if 0 ≤ (a1.size : Int) then (if (a1.size : Int) ≤ (a0.size : Int) then (some (a0.extract ((a1.size : Int) : Int).toNat a0.size, true)) else (none)) else (none)) = some (r1, r2) := by rw [if_pos rfl] at H; exact H
  clear H
  have H := H1
  clear H1
  by_cases c5 : 0 ≤ (a1.size : Int)
  ·rw [if_pos c5] at H
   have c5b0 := eq_true c5
   have c5b1 : decide (0 ≤ (a1.size : Int)) = true := decide_eq_true c5
   clear c5
   by_cases c6 : (a1.size : Int) ≤ (a0.size : Int)
   ·rw [if_pos c6] at H
    have c6b0 := eq_true c6
    have c6b1 : decide ((a1.size : Int) ≤ (a0.size : Int)) = true := decide_eq_true c6
    clear c6
    simp only [Option.some.injEq, Prod.mk.injEq] at H
    obtain ⟨rfl, rfl⟩ := H
    go_enter Tryd.func77, Tryd.ntmps77
    go_wp2_with (first | ((with_reducible refine zn (f := 91) rfl ?_); refine zz (some 8) rfl rfl Tryd.func91 (by kernel_rfl) rfl #[.string a0, .string a1] rfl (by (try simp only [List.map_toArray, List.map_cons, List.map_nil]); first | done | rfl | (simp only [List.length_drop, List.length_take]; rfl)) ?_; (with_reducible refine (stringslite_HasPrefix.calls a0 a1 true _ A3.out).mono ?_); rintro e w' ⟨rfl, ⟨nd, rfl⟩⟩; refine ⟨_, rfl, ?_⟩))
    go_ret2
    exact ⟨by first | rfl | (simp; done) | (simp [*]; done), by repeat (first | exact Drawn0.refl _ | apply Drawn0.step)⟩
   ·rw [if_neg c6] at H
    exact absurd H (by simp)
  ·rw [if_neg c5] at H
   exact absurd H (by simp)
 ·replace c4 := Bool.eq_false_iff.mpr c4
  subst c4
  have H1 : (some (a0, false)) = some (r1, r2) := by rw [if_neg (show ¬ (false = true) by decide)] at H; exact H
  clear H
  have H := H1
  clear H1
  simp only [Option.some.injEq, Prod.mk.injEq] at H
  obtain ⟨rfl, rfl⟩ := H
  go_enter Tryd.func77, Tryd.ntmps77
  go_wp2_with (first | ((with_reducible refine zn (f := 91) rfl ?_); refine zz (some 8) rfl rfl Tryd.func91 (by kernel_rfl) rfl #[.string a0, .string a1] rfl (by (try simp only [List.map_toArray, List.map_cons, List.map_nil]); first | done | rfl | (simp only [List.length_drop, List.length_take]; rfl)) ?_; (with_reducible refine (stringslite_HasPrefix.calls a0 a1 false _ A3.out).mono ?_); rintro e w' ⟨rfl, ⟨nd, rfl⟩⟩; refine ⟨_, rfl, ?_⟩))
  go_ret2
  exact ⟨by first | rfl | (simp; done) | (simp [*]; done), by repeat (first | exact Drawn0.refl _ | apply Drawn0.step)⟩

def strings_CutPrefix.f (a0 : ByteArray) (a1 : ByteArray) : Option (ByteArray × Bool) := (stringslite_CutPrefix.f a0 a1).bind fun bt185 => (some (bt185.1, bt185.2))
set_option maxHeartbeats 8000000 in
set_option maxRecDepth 100000 in
theorem strings_CutPrefix.calls (a0 : ByteArray) (a1 : ByteArray) (r1 : ByteArray) (r2 : Bool) (w : World) (h : strings_CutPrefix.f a0 a1 = some (r1, r2)) :
  Calls Tryd.prog 67 #[.string a0, .string a1] w fun e w' => e = .returned (.tuple #[.string r1, .bool r2]) ∧ Drawn0 w w' := by
 have H : ((stringslite_CutPrefix.f a0 a1).bind fun bt185 => (some (bt185.1, bt185.2))) = some (r1, r2) := h
 clear h
 replace H := Option.bind_eq_some_iff.mp H
 obtain ⟨⟨t185, t186⟩, A30, H⟩ := H
 replace H : (some (t185, t186)) = some (r1, r2) := H
 have A3 := Aside0.mk A30
 clear A30
 simp only [Option.some.injEq, Prod.mk.injEq] at H
 obtain ⟨rfl, rfl⟩ := H
 go_enter Tryd.func67, Tryd.ntmps67
 go_wp2_with (first | ((with_reducible refine zn (f := 77) rfl ?_); refine zz (some 8) rfl rfl Tryd.func77 (by kernel_rfl) rfl #[.string a0, .string a1] rfl (by (try simp only [List.map_toArray, List.map_cons, List.map_nil]); first | done | rfl | (simp only [List.length_drop, List.length_take]; rfl)) ?_; (with_reducible refine (stringslite_CutPrefix.calls a0 a1 t185 t186 _ A3.out).mono ?_); rintro e w' ⟨rfl, ⟨nd, rfl⟩⟩; refine ⟨_, rfl, ?_⟩))
 go_ret2
 exact ⟨by first | rfl | (simp; done) | (simp [*]; done), by repeat (first | exact Drawn0.refl _ | apply Drawn0.step)⟩

def strings_Split.f (a0 : ByteArray) (a1 : ByteArray) : Option (List ByteArray) := if a0.size < 4294967281 ∧ 1 ≤ a1.size ∧ Go.Lib.countB a0 a1 ≤ 1000000 then some (Go.Lib.splitB a1 0 (Go.Lib.countB a0 a1) a0) else none
theorem split_len (sep : ByteArray) (h1 : 1 ≤ sep.size) : ∀ (n : Nat) (s : ByteArray), s.size ≤ n → (Go.Lib.splitB sep 0 (Go.Lib.countB s sep) s).length = Go.Lib.countB s sep + 1 := by
 intro n
 induction n with
 | zero =>
  intro s hs
  rcases Go.Lib.indexB_cases s sep with hix | ⟨i, hix, hroom⟩
  ·rw [Go.Lib.countB_miss s sep hix]; rfl
  ·omega
 | succ n ih =>
  intro s hs
  rcases Go.Lib.indexB_cases s sep with hix | ⟨i, hix, hroom⟩
  ·rw [Go.Lib.countB_miss s sep hix]; rfl
  ·rw [Go.Lib.countB_hit s sep i h1 hix, Nat.add_comm 1, Go.Lib.splitB_hit sep 0 _ s i hix, List.length_cons, ih _ (by simp only [ByteArray.size_extract]; omega)]
set_option maxRecDepth 100000 in
theorem strings_Split.calls (a0 : ByteArray) (a1 : ByteArray) (r : List ByteArray) (w : World) (h : strings_Split.f a0 a1 = some r) (hGMAX_ : Go.Proofs.YtejecjjimggjeaaDoorH.GFMAX w) :
  Calls Tryd.prog 68 #[.string a0, .string a1] w fun e w' => ∃ v0_ : Value, e = .returned (v0_) ∧ Kd.R Kd.string 9 w' w.heap.size (fun _ => True) v0_ r ∧ Below w.heap.size w w' := by
 unfold strings_Split.f at h
 by_cases hc : a0.size < 4294967281 ∧ 1 ≤ a1.size ∧ Go.Lib.countB a0 a1 ≤ 1000000
 ·rw [if_pos hc] at h
  obtain rfl := Option.some.inj h
  obtain ⟨m, hm⟩ := hGMAX_
  have hl := split_len a1 hc.2.1 a0.size a0 (Nat.le_refl _)
  refine (Go.Proofs.Tryd.strings_Split a0 a1 m w hc.1 hm hc.2.1).mono ?_
  rintro e w' ⟨rfl, rfl⟩
  refine ⟨_, rfl, ?_, zf (Below.refl _ _) _⟩
  rw [← hl]
  exact Go.Proofs.YtejecjjimggjeaaDoorH.R_of_arr Value.string (fun _ => rfl) (ok := fun _ => True) (blk_new w _) (Nat.le_refl _) trivial (by omega) (by omega)
 ·rw [if_neg hc] at h
  cases h

end Go.Proofs.YtejecjjimggjeaaDoor.GFnExactDecodeTxn
