/- Written by give.py, a program of this session, that runs the kit's print and lays contracts proved by hand beside it. -/
import Derived.Test.YtjoafknckmoojaaDoorGFnExactDecodeTreex0
import Derived.Test.YtjoafknckmoojaaDoorGFnExactDecodeTreex4
namespace Go.Proofs.YtjoafknckmoojaaDoor.GFnExactDecodeTree
open Go.RowKit Go.Proofs.YtjoafknckmoojaaDoorW.PrintWords Go.Proofs.YtjoafknckmoojaaDoorW.PrintLast Go.Proofs.YtjoafknckmoojaaDoorW.PrintMore
attribute [local go_sem] max2_int min2_int max_two min_two max_three min_three max_four min_four
attribute [local go_sem high] Go.Proofs.YtjoafknckmoojaaDoorH.str_leq Go.Proofs.YtjoafknckmoojaaDoorH.str_geq Go.Proofs.YtjoafknckmoojaaDoorH.str_gtr
set_option linter.unusedVariables false
set_option linter.unusedSimpArgs false

def spec_DecodeTree.l0 : Nat → List Int → Int → List (S92) → Option (Bool × (List (S92)))
 | 0, _, _, _ => none
 | k + 1, x0, x4, x155000 => if x4 < (x0.length : Int) then ((spec_l4ReadNode.f k x0 x4).bind fun bt155 => (if bt155.2.2.2.2.2.2.2 < 0 then (some (false, ([] : List (S92)))) else (if x155000.length < 1954687338268 then (spec_DecodeTree.l0 k x0 bt155.2.2.2.2.2.2.2 (x155000 ++ [(⟨bt155.1, bt155.2.1, bt155.2.2.1, bt155.2.2.2.1, bt155.2.2.2.2.1, bt155.2.2.2.2.2.1, bt155.2.2.2.2.2.2.1⟩ : S92)])) else (none)))) else ((spec_ValidTree.f k x155000).bind fun t167 => (if t167 = true then (some (true, x155000)) else (some (false, ([] : List (S92))))))
def spec_DecodeTree.f (k : Nat) (l0 : List Int) : Option (Bool × (List (S92))) := spec_DecodeTree.l0 k l0 0 ([] : List (S92))
theorem spec_DecodeTree.mono_l : ∀ k, (∀ y0 y1 y2, LeO (spec_DecodeTree.l0 k y0 y1 y2) (spec_DecodeTree.l0 (k + 1) y0 y1 y2))
 | 0 => fun _ _ _ r h => by simp [spec_DecodeTree.l0] at h
 | k + 1 => by
  have ih0 := spec_DecodeTree.mono_l k
  ·intro y0 y1 y2
   unfold spec_DecodeTree.l0
   repeat' first
   | (with_reducible exact ih0 _ _ _)
   | (with_reducible exact spec_ValidTree.mono _ _)
   | (with_reducible exact spec_l4ReadNode.mono _ _ _)
   | (with_reducible exact LeO.refl _)
   | (with_reducible exact LeO.none _)
   | (with_reducible refine LeO.ite ?_ ?_)
   | (with_reducible refine LeO.bind ?_ (fun _ => ?_))
   | exact ih0 _ _ _
   | exact spec_ValidTree.mono _ _
   | exact spec_l4ReadNode.mono _ _ _
   | exact LeO.none _
   | refine LeO.ite ?_ ?_
   | refine LeO.bind ?_ (fun _ => ?_)
theorem spec_DecodeTree.mono : ∀ a0 k, LeO (spec_DecodeTree.f k a0) (spec_DecodeTree.f (k + 1) a0) := by
 intro a0 k
 have ih0 := spec_DecodeTree.mono_l k
 unfold spec_DecodeTree.f
 repeat' first
   | (with_reducible exact ih0 _ _ _)
   | (with_reducible exact spec_ValidTree.mono _ _)
   | (with_reducible exact spec_l4ReadNode.mono _ _ _)
   | (with_reducible exact LeO.refl _)
   | (with_reducible exact LeO.none _)
   | (with_reducible refine LeO.ite ?_ ?_)
   | (with_reducible refine LeO.bind ?_ (fun _ => ?_))
   | exact ih0 _ _ _
   | exact spec_ValidTree.mono _ _
   | exact spec_l4ReadNode.mono _ _ _
   | exact LeO.none _
   | refine LeO.ite ?_ ?_
   | refine LeO.bind ?_ (fun _ => ?_)
set_option maxHeartbeats 8000000 in
set_option maxRecDepth 100000 in
theorem spec_DecodeTree.calls (k : Nat) (A0 : Option Addr) (c0 : Nat) (l0 : List Int) (r1 : Bool) (r2 : List (S92)) (w : World) (hr0 : Kd.C (Kd.int .u8) w A0 l0.length l0) (hc0 : l0.length ≤ c0) (h : spec_DecodeTree.f k l0 = some (r1, r2)) :
  Calls Tryd.prog 11 #[.slice A0 l0.length c0] w fun e w' => ∃ v1_ : Value, e = .returned (.agg #[.bool r1, v1_]) ∧ Kd.R k92 92 w' w.heap.size (fun _ => True) v1_ r2 ∧ Below w.heap.size w w' := by
 have hu27 := Tryd.underlying27
 have hu25 := Tryd.underlying25
 have hu92 := Tryd.underlying92
 have HR0 := Aside0.mk hr0
 have HC0 := Aside0.mk hc0
 clear hr0 hc0
 have HB := Aside0.mk (Below.refl w.heap.size w)
 have H : (spec_DecodeTree.l0 k l0 0 ([] : List (S92))) = some (r1, r2) := h
 clear h
 have H' := Aside0.mk H
 clear H
 go_enter Tryd.func11, Tryd.ntmps11
 go_wp2_with (first | ((with_reducible refine zv (N := 2) rfl ?_); refine zw ?hg (N := 2) ?hd (cs := #[.bool false, .slice none 0 0]) (t := 27) ?hr ?_; (case hd => rfl); (case hg => rfl); (case hr => first | (go_simp; done) | (go_simp; rfl)); intro zF hg w2 hbox hb; have n0_ := Aside0.mk (zl (by repeat (first | (with_reducible first | exact HB.out | apply ze | apply zc | apply zd) | exact HB.out)) hb); have n1_ := Aside0.mk (hbox); have n2_ := Aside0.mk ((by rw [hg]; exact (zm (by repeat (first | (with_reducible first | exact HB.out | apply ze | apply zc | apply zd) | exact HB.out))) : w.heap.size ≤ zF)); have n3_ := Aside0.mk ((by rw [hg]; exact (zm (by repeat (first | (with_reducible first | exact HB.out | apply ze | apply zc | apply zd) | exact HB.out))) : w.heap.size ≤ zF)); clear HB; have HB := n0_; have zC := n1_; have GW153 := n2_; have zJ := n3_; clear n0_ n1_ n2_ n3_; clear hb hbox hg) | ((with_reducible refine zv (N := 3) rfl ?_); refine zw ?hg (N := 3) ?hd (cs := #[.slice none 0 0]) (t := 25) ?hr ?_; (case hd => rfl); (case hg => rfl); (case hr => first | (go_simp; done) | (go_simp; rfl)); intro zI hg w3 hbox hb; have n0_ := Aside0.mk (zt (g := zF) (o := .cells #[.bool false, .slice none 0 0] 27 (0, 0)) (by (with_reducible repeat (first | refine zi ?_ _ | refine zk ?_ | refine zh ?_ _)); exact zC.out) hb); have n1_ := Aside0.mk (zl (by repeat (first | (with_reducible first | exact HB.out | apply ze | apply zc | apply zd | refine zj ?_ zJ.out) | exact HB.out)) hb); have n2_ := Aside0.mk (hbox); have n3_ := Aside0.mk ((by rw [hg]; exact (zm (by repeat (first | (with_reducible first | exact HB.out | apply ze | apply zc | apply zd | refine zj ?_ zJ.out) | exact HB.out))) : w.heap.size ≤ zI)); have n4_ := Aside0.mk ((by rw [hg]; exact (zm (by repeat (first | (with_reducible first | exact HB.out | apply ze | apply zc | apply zd | refine zj ?_ zJ.out) | exact HB.out))) : w.heap.size ≤ zI)); have n5_ := Aside0.mk ((by rw [hg]; exact Nat.ne_of_lt (zy (g := zF) (o := .cells #[.bool false, .slice none 0 0] 27 (0, 0)) (by (with_reducible repeat (first | refine zi ?_ _ | refine zk ?_ | refine zh ?_ _)); exact zC.out)) : zF ≠ zI)); have n6_ := Aside0.mk ((by rw [hg]; exact Nat.ne_of_gt (zy (g := zF) (o := .cells #[.bool false, .slice none 0 0] 27 (0, 0)) (by (with_reducible repeat (first | refine zi ?_ _ | refine zk ?_ | refine zh ?_ _)); exact zC.out)) : zI ≠ zF)); clear zC; clear HB; have zC := n0_; have HB := n1_; have zD := n2_; have GW154 := n3_; have zL := n4_; have zM := n5_; have zN := n6_; clear n0_ n1_ n2_ n3_ n4_ n5_ n6_; clear hb hbox hg; have zic := zN.out; have zjc := zM.out; have zS : w3.cell? ⟨zI, 0, none⟩ = some (.slice none 0 0) := (zg zD.out 0).trans rfl; have zT := zf zD.out 0))
 go_loopg [4] k (fun kq v4 w' => ∃ (x4_1 : Int) (x154000_1 : Bool) (x155000_1 : List (S92)) (u155000 : Value), v4 = .int .i64 x4_1 ∧ Aside0 (spec_DecodeTree.l0 kq l0 x4_1 x155000_1 = some (r1, r2)) ∧ Aside0 (kq ≤ k) ∧ Aside0 (Kd.R k92 92 w' w.heap.size (fun _ => True) u155000 x155000_1) ∧ Aside0 (w'.heap[zF]? = some (.cells #[.bool x154000_1, (.slice none 0 0)] 27 (0, 0))) ∧ Aside0 (w'.heap[zI]? = some (.cells #[u155000] 25 (0, 0))) ∧ Aside0 (Below w.heap.size w w'))
 case atStart => exact ⟨(0), (false), (([] : List (S92))), (.slice none 0 0), (by first | rfl | (simp; done) | (simp [*]; done)), H', ⟨Nat.le_refl _⟩, ⟨by first | exact Kd.R_nil _ _ _ _ _ | exact Kd.N_nil _ _ _ _ _ | exact Kd.V_nil _ _ _ _ _ | exact Kd.Q_nil _ _ _ _ _ | exact Kd.S_nil _ _ _ _ _⟩, ⟨by (with_reducible repeat (first | refine zi ?_ _ | refine zk ?_ | refine zh ?_ _)); refine blk_far ?_ zM.out _; (with_reducible repeat (first | refine zi ?_ _ | refine zk ?_ | refine zh ?_ _)); exact zC.out⟩, ⟨by (with_reducible repeat (first | refine zi ?_ _ | refine zk ?_ | refine zh ?_ _)); refine zx (cs := #[.slice none 0 0]) ?_ 0 _ rfl; (with_reducible repeat (first | refine zi ?_ _ | refine zk ?_ | refine zh ?_ _)); exact zD.out⟩, ⟨by repeat (first | (with_reducible first | exact HB.out | apply ze | apply zc | apply zd | refine zj ?_ zJ.out | refine zj ?_ zL.out) | exact HB.out)⟩⟩
 case round =>
  clear H'
  try clear c1
  try clear p2
  try clear c4
  try clear zS
  try clear zT
  obtain ⟨x4_1, x154000_1, x155000_1, u155000, rfl, HA, HK1, zB, zC, zD, HB⟩ := hrel
  cases gk with
  | zero => exact absurd HA.out (by simp [spec_DecodeTree.l0])
  | succ k1 =>
   have H := HA.out
   clear HA
   simp only [spec_DecodeTree.l0] at H
   by_cases c6 : x4_1 < (l0.length : Int)
   ·rw [if_pos c6] at H
    have c6b0 : decide (x4_1 < (l0.length : Int)) = true := decide_eq_true c6
    clear c6
    replace H := Option.bind_eq_some_iff.mp H
    obtain ⟨⟨t155, t156, t157, t158, t159, t160, t161, t162⟩, A70, H⟩ := H
    replace H : (if t162 < 0 then (some (false, ([] : List (S92)))) else (if x155000_1.length < 1954687338268 then (spec_DecodeTree.l0 k1 l0 t162 (x155000_1 ++ [(⟨t155, t156, t157, t158, t159, t160, t161⟩ : S92)])) else (none))) = some (r1, r2) := H
    have A7 := Aside0.mk A70
    clear A70
    by_cases c8 : t162 < 0
    ·rw [if_pos c8] at H
     have c8b0 : decide (t162 < 0) = true := decide_eq_true c8
     clear c8
     simp only [Option.some.injEq, Prod.mk.injEq] at H
     obtain ⟨rfl, rfl⟩ := H
     go_wp2_with (first | ((with_reducible refine zq (f := 61) rfl ?_); refine zz (some 15) rfl rfl Tryd.func61 (by kernel_rfl) rfl #[.slice A0 l0.length c0, .int .i64 x4_1] rfl (by (try simp only [List.map_toArray, List.map_cons, List.map_nil]); first | done | rfl | (simp only [List.length_drop, List.length_take]; rfl)) ?_; (with_reducible refine (spec_l4ReadNode.calls k1 _ _ l0 x4_1 t155 t156 t157 t158 t159 t160 t161 t162 _ ?side1 ?side2 A7.out).mono ?_); (case side1 => repeat (first | exact (Kd.C_below HR0.out HB.out) | (with_reducible refine Kd.C_alloc ?_ _) | (with_reducible refine Kd.C_drewN ?_ _) | (with_reducible refine Kd.C_drew ?_))); (case side2 => exact HC0.out); rintro e w9 ⟨rfl, hb⟩; refine ⟨_, rfl, ?_⟩; have n0_ := Aside0.mk (Kd.R_below (by (with_reducible repeat (first | apply Kd.R_alloc | apply Kd.R_drewN | apply Kd.R_drew)); exact zB.out) hb); have n1_ := Aside0.mk (zt (g := zF) (o := .cells #[.bool x154000_1, .slice none 0 0] 27 (0, 0)) (by (with_reducible repeat (first | refine zi ?_ _ | refine zk ?_ | refine zh ?_ _)); exact zC.out) hb); have n2_ := Aside0.mk (zt (g := zI) (o := .cells #[u155000] 25 (0, 0)) (by (with_reducible repeat (first | refine zi ?_ _ | refine zk ?_ | refine zh ?_ _)); exact zD.out) hb); have n3_ := Aside0.mk (zl (by repeat (first | (with_reducible first | exact HB.out | apply ze | apply zc | apply zd | refine zj ?_ zJ.out | refine zj ?_ zL.out) | exact HB.out)) hb); clear zB; clear zC; clear zD; clear HB; have zB := n0_; have zC := n1_; have zD := n2_; have HB := n3_; clear n0_ n1_ n2_ n3_; (try clear hb); (try clear hb2); (try clear hk); (try clear hi)) | ((with_reducible refine zv (N := 5) rfl ?_); refine zw ?hg (N := 5) ?hd (cs := #[.string (⟨#[]⟩ : ByteArray), .string (⟨#[]⟩ : ByteArray), .int .i64 0, .int .i64 0, .int .i64 0, .int .i64 0, .int .i64 0]) (t := 92) ?hr ?_; (case hd => rfl); (case hg => rfl); (case hr => first | (go_simp; done) | (go_simp; rfl)); intro zE hg w10 hbox hb; have n0_ := Aside0.mk (Kd.R_below (Kd.R_elderB (by (with_reducible repeat (first | apply Kd.R_alloc | apply Kd.R_drewN | apply Kd.R_drew)); exact zB.out) zE (Nat.le_of_eq hg.symm)) hb); have n1_ := Aside0.mk (zt (g := zF) (o := .cells #[.bool x154000_1, .slice none 0 0] 27 (0, 0)) (by (with_reducible repeat (first | refine zi ?_ _ | refine zk ?_ | refine zh ?_ _)); exact zC.out) hb); have n2_ := Aside0.mk (zt (g := zI) (o := .cells #[u155000] 25 (0, 0)) (by (with_reducible repeat (first | refine zi ?_ _ | refine zk ?_ | refine zh ?_ _)); exact zD.out) hb); have n3_ := Aside0.mk (zl (by repeat (first | (with_reducible first | exact HB.out | apply ze | apply zc | apply zd | refine zj ?_ zJ.out | refine zj ?_ zL.out) | exact HB.out)) hb); have n4_ := Aside0.mk (hbox); have n5_ := Aside0.mk ((by rw [hg]; exact (zm (by repeat (first | (with_reducible first | exact HB.out | apply ze | apply zc | apply zd | refine zj ?_ zJ.out | refine zj ?_ zL.out) | exact HB.out))) : w.heap.size ≤ zE)); have n6_ := Aside0.mk ((by rw [hg]; exact (zm (by repeat (first | (with_reducible first | exact HB.out | apply ze | apply zc | apply zd | refine zj ?_ zJ.out | refine zj ?_ zL.out) | exact HB.out))) : w.heap.size ≤ zE)); have n7_ := Aside0.mk ((by rw [hg]; exact Nat.ne_of_lt (zy (g := zF) (o := .cells #[.bool x154000_1, .slice none 0 0] 27 (0, 0)) (by (with_reducible repeat (first | refine zi ?_ _ | refine zk ?_ | refine zh ?_ _)); exact zC.out)) : zF ≠ zE)); have n8_ := Aside0.mk ((by rw [hg]; exact Nat.ne_of_gt (zy (g := zF) (o := .cells #[.bool x154000_1, .slice none 0 0] 27 (0, 0)) (by (with_reducible repeat (first | refine zi ?_ _ | refine zk ?_ | refine zh ?_ _)); exact zC.out)) : zE ≠ zF)); have n9_ := Aside0.mk ((by rw [hg]; exact Nat.ne_of_lt (zy (g := zI) (o := .cells #[u155000] 25 (0, 0)) (by (with_reducible repeat (first | refine zi ?_ _ | refine zk ?_ | refine zh ?_ _)); exact zD.out)) : zI ≠ zE)); have n10_ := Aside0.mk ((by rw [hg]; exact Nat.ne_of_gt (zy (g := zI) (o := .cells #[u155000] 25 (0, 0)) (by (with_reducible repeat (first | refine zi ?_ _ | refine zk ?_ | refine zh ?_ _)); exact zD.out)) : zE ≠ zI)); clear zB; clear zC; clear zD; clear HB; have zB := n0_; have zC := n1_; have zD := n2_; have HB := n3_; have zG := n4_; have GW163 := n5_; have zQ := n6_; have zH := n7_; have zO := n8_; have zK := n9_; have zP := n10_; clear n0_ n1_ n2_ n3_ n4_ n5_ n6_ n7_ n8_ n9_ n10_; clear hb hbox hg; have zSb := zO.out; have zTb := zH.out; have zUb := zP.out; have zVb := zK.out; have zU : w10.cell? ⟨zE, 0, none⟩ = some (.string (⟨#[]⟩ : ByteArray)) := (zg zG.out 0).trans rfl; have zV : w10.cell? ⟨zE, 1, none⟩ = some (.string (⟨#[]⟩ : ByteArray)) := (zg zG.out 1).trans rfl; have zW : w10.cell? ⟨zE, 2, none⟩ = some (.int .i64 0) := (zg zG.out 2).trans rfl; have zX : w10.cell? ⟨zE, 3, none⟩ = some (.int .i64 0) := (zg zG.out 3).trans rfl; have zY : w10.cell? ⟨zE, 4, none⟩ = some (.int .i64 0) := (zg zG.out 4).trans rfl; have zZ : w10.cell? ⟨zE, 5, none⟩ = some (.int .i64 0) := (zg zG.out 5).trans rfl; have zab : w10.cell? ⟨zE, 6, none⟩ = some (.int .i64 0) := (zg zG.out 6).trans rfl; have zbb := zf zG.out 0; have zcb := zf zG.out 1; have zdb := zf zG.out 2; have zeb := zf zG.out 3; have zfb := zf zG.out 4; have zgb := zf zG.out 5; have zhb := zf zG.out 6; have zWb := zM.out; have zXb := zN.out; have zib : w10.cell? ⟨zF, 0, none⟩ = some (.bool x154000_1) := (zg zC.out 0).trans rfl; have zjb : w10.cell? ⟨zF, 1, none⟩ = some (.slice none 0 0) := (zg zC.out 1).trans rfl; have zkb := zf zC.out 0; have zlb := zf zC.out 1))
     refine bodyPost_ret (results_cell_row rfl _ _ zF 27 #[.bool false, .slice none 0 0] (0, 0) _ rfl (by (with_reducible repeat (first | refine zi ?_ _ | refine zk ?_ | refine zh ?_ _)); refine zx (cs := #[.bool false, .slice none 0 0]) ?_ 1 _ rfl; (with_reducible repeat (first | refine zi ?_ _ | refine zk ?_ | refine zh ?_ _)); refine zx (cs := #[.bool x154000_1, .slice none 0 0]) ?_ 0 _ rfl; (with_reducible repeat (first | refine zi ?_ _ | refine zk ?_ | refine zh ?_ _)); refine blk_far ?_ zH.out _; (with_reducible repeat (first | refine zi ?_ _ | refine zk ?_ | refine zh ?_ _)); refine blk_far ?_ zH.out _; (with_reducible repeat (first | refine zi ?_ _ | refine zk ?_ | refine zh ?_ _)); refine blk_far ?_ zH.out _; (with_reducible repeat (first | refine zi ?_ _ | refine zk ?_ | refine zh ?_ _)); refine blk_far ?_ zH.out _; (with_reducible repeat (first | refine zi ?_ _ | refine zk ?_ | refine zh ?_ _)); refine blk_far ?_ zH.out _; (with_reducible repeat (first | refine zi ?_ _ | refine zk ?_ | refine zh ?_ _)); refine blk_far ?_ zH.out _; (with_reducible repeat (first | refine zi ?_ _ | refine zk ?_ | refine zh ?_ _)); refine blk_far ?_ zH.out _; (with_reducible repeat (first | refine zi ?_ _ | refine zk ?_ | refine zh ?_ _)); exact zC.out) Tryd.underlying27 rfl (by kernel_rfl)) rfl ?_
     exact ⟨_, by first | rfl | (simp [errW_none, errW_some] <;> rfl) | (simp [*, errW_none, errW_some] <;> rfl), by first | exact Kd.R_nil _ _ _ _ _ | exact Kd.N_nil _ _ _ _ _ | exact Kd.V_nil _ _ _ _ _ | exact Kd.Q_nil _ _ _ _ _ | exact Kd.S_nil _ _ _ _ _, by repeat (first | (with_reducible first | exact HB.out | apply ze | apply zc | apply zd | refine zj ?_ zJ.out | refine zj ?_ zL.out | refine zj ?_ zQ.out) | exact HB.out)⟩
    ·rw [if_neg c8] at H
     have c8b0 : decide (t162 < 0) = false := decide_eq_false c8
     clear c8
     by_cases c16 : x155000_1.length < 1954687338268
     ·rw [if_pos c16] at H
      have LMc16 := Aside0.mk c16
      clear c16
      obtain ⟨y164, hy164⟩ : ∃ y_ : List (S92), y_ = (x155000_1 ++ [(⟨t155, t156, t157, t158, t159, t160, t161⟩ : S92)]) := ⟨_, rfl⟩
      replace H : (spec_DecodeTree.l0 k1 l0 t162 y164) = some (r1, r2) := by first | (rw [hy164]; with_reducible exact H) | (have H2_ := (Option.bind_some _ _).symm.trans H; rw [hy164]; with_reducible exact H2_) | (have H2_ := (Option.bind_some _ _).symm.trans H; with_reducible exact H2_) | with_reducible exact H | (rw [hy164]; exact H) | exact H
      have Ny164 := Aside0.mk hy164
      clear hy164
      have H' := Aside0.mk H
      clear H
      go_wp2_with (first | ((with_reducible refine zq (f := 61) rfl ?_); refine zz (some 15) rfl rfl Tryd.func61 (by kernel_rfl) rfl #[.slice A0 l0.length c0, .int .i64 x4_1] rfl (by (try simp only [List.map_toArray, List.map_cons, List.map_nil]); first | done | rfl | (simp only [List.length_drop, List.length_take]; rfl)) ?_; (with_reducible refine (spec_l4ReadNode.calls k1 _ _ l0 x4_1 t155 t156 t157 t158 t159 t160 t161 t162 _ ?side1 ?side2 A7.out).mono ?_); (case side1 => repeat (first | exact (Kd.C_below HR0.out HB.out) | (with_reducible refine Kd.C_alloc ?_ _) | (with_reducible refine Kd.C_drewN ?_ _) | (with_reducible refine Kd.C_drew ?_))); (case side2 => exact HC0.out); rintro e w17 ⟨rfl, hb⟩; refine ⟨_, rfl, ?_⟩; have n0_ := Aside0.mk (Kd.R_below (by (with_reducible repeat (first | apply Kd.R_alloc | apply Kd.R_drewN | apply Kd.R_drew)); exact zB.out) hb); have n1_ := Aside0.mk (zt (g := zF) (o := .cells #[.bool x154000_1, .slice none 0 0] 27 (0, 0)) (by (with_reducible repeat (first | refine zi ?_ _ | refine zk ?_ | refine zh ?_ _)); exact zC.out) hb); have n2_ := Aside0.mk (zt (g := zI) (o := .cells #[u155000] 25 (0, 0)) (by (with_reducible repeat (first | refine zi ?_ _ | refine zk ?_ | refine zh ?_ _)); exact zD.out) hb); have n3_ := Aside0.mk (zl (by repeat (first | (with_reducible first | exact HB.out | apply ze | apply zc | apply zd | refine zj ?_ zJ.out | refine zj ?_ zL.out) | exact HB.out)) hb); clear zB; clear zC; clear zD; clear HB; have zB := n0_; have zC := n1_; have zD := n2_; have HB := n3_; clear n0_ n1_ n2_ n3_; (try clear hb); (try clear hb2); (try clear hk); (try clear hi)) | ((with_reducible refine zv (N := 5) rfl ?_); refine zw ?hg (N := 5) ?hd (cs := #[.string (⟨#[]⟩ : ByteArray), .string (⟨#[]⟩ : ByteArray), .int .i64 0, .int .i64 0, .int .i64 0, .int .i64 0, .int .i64 0]) (t := 92) ?hr ?_; (case hd => rfl); (case hg => rfl); (case hr => first | (go_simp; done) | (go_simp; rfl)); intro zE hg w18 hbox hb; have n0_ := Aside0.mk (Kd.R_below (Kd.R_elderB (by (with_reducible repeat (first | apply Kd.R_alloc | apply Kd.R_drewN | apply Kd.R_drew)); exact zB.out) zE (Nat.le_of_eq hg.symm)) hb); have n1_ := Aside0.mk (zt (g := zF) (o := .cells #[.bool x154000_1, .slice none 0 0] 27 (0, 0)) (by (with_reducible repeat (first | refine zi ?_ _ | refine zk ?_ | refine zh ?_ _)); exact zC.out) hb); have n2_ := Aside0.mk (zt (g := zI) (o := .cells #[u155000] 25 (0, 0)) (by (with_reducible repeat (first | refine zi ?_ _ | refine zk ?_ | refine zh ?_ _)); exact zD.out) hb); have n3_ := Aside0.mk (zl (by repeat (first | (with_reducible first | exact HB.out | apply ze | apply zc | apply zd | refine zj ?_ zJ.out | refine zj ?_ zL.out) | exact HB.out)) hb); have n4_ := Aside0.mk (hbox); have n5_ := Aside0.mk ((by rw [hg]; exact (zm (by repeat (first | (with_reducible first | exact HB.out | apply ze | apply zc | apply zd | refine zj ?_ zJ.out | refine zj ?_ zL.out) | exact HB.out))) : w.heap.size ≤ zE)); have n6_ := Aside0.mk ((by rw [hg]; exact (zm (by repeat (first | (with_reducible first | exact HB.out | apply ze | apply zc | apply zd | refine zj ?_ zJ.out | refine zj ?_ zL.out) | exact HB.out))) : w.heap.size ≤ zE)); have n7_ := Aside0.mk ((by rw [hg]; exact Nat.ne_of_lt (zy (g := zF) (o := .cells #[.bool x154000_1, .slice none 0 0] 27 (0, 0)) (by (with_reducible repeat (first | refine zi ?_ _ | refine zk ?_ | refine zh ?_ _)); exact zC.out)) : zF ≠ zE)); have n8_ := Aside0.mk ((by rw [hg]; exact Nat.ne_of_gt (zy (g := zF) (o := .cells #[.bool x154000_1, .slice none 0 0] 27 (0, 0)) (by (with_reducible repeat (first | refine zi ?_ _ | refine zk ?_ | refine zh ?_ _)); exact zC.out)) : zE ≠ zF)); have n9_ := Aside0.mk ((by rw [hg]; exact Nat.ne_of_lt (zy (g := zI) (o := .cells #[u155000] 25 (0, 0)) (by (with_reducible repeat (first | refine zi ?_ _ | refine zk ?_ | refine zh ?_ _)); exact zD.out)) : zI ≠ zE)); have n10_ := Aside0.mk ((by rw [hg]; exact Nat.ne_of_gt (zy (g := zI) (o := .cells #[u155000] 25 (0, 0)) (by (with_reducible repeat (first | refine zi ?_ _ | refine zk ?_ | refine zh ?_ _)); exact zD.out)) : zE ≠ zI)); clear zB; clear zC; clear zD; clear HB; have zB := n0_; have zC := n1_; have zD := n2_; have HB := n3_; have zG := n4_; have GW163 := n5_; have zQ := n6_; have zH := n7_; have zO := n8_; have zK := n9_; have zP := n10_; clear n0_ n1_ n2_ n3_ n4_ n5_ n6_ n7_ n8_ n9_ n10_; clear hb hbox hg; have zYb := zO.out; have zZb := zH.out; have zac := zP.out; have zbc := zK.out; have zmb : w18.cell? ⟨zE, 0, none⟩ = some (.string (⟨#[]⟩ : ByteArray)) := (zg zG.out 0).trans rfl; have znb : w18.cell? ⟨zE, 1, none⟩ = some (.string (⟨#[]⟩ : ByteArray)) := (zg zG.out 1).trans rfl; have zob : w18.cell? ⟨zE, 2, none⟩ = some (.int .i64 0) := (zg zG.out 2).trans rfl; have zpb : w18.cell? ⟨zE, 3, none⟩ = some (.int .i64 0) := (zg zG.out 3).trans rfl; have zqb : w18.cell? ⟨zE, 4, none⟩ = some (.int .i64 0) := (zg zG.out 4).trans rfl; have zrb : w18.cell? ⟨zE, 5, none⟩ = some (.int .i64 0) := (zg zG.out 5).trans rfl; have zsb : w18.cell? ⟨zE, 6, none⟩ = some (.int .i64 0) := (zg zG.out 6).trans rfl; have ztb := zf zG.out 0; have zub := zf zG.out 1; have zvb := zf zG.out 2; have zwb := zf zG.out 3; have zxb := zf zG.out 4; have zyb := zf zG.out 5; have zzb := zf zG.out 6; have zcc := zN.out; have zdc := zM.out; have zAb : w18.cell? ⟨zI, 0, none⟩ = some (u155000) := (zg zD.out 0).trans rfl; have zBb := zf zD.out 0) | ((with_reducible refine gate_builtin (b := .append) (xs := #[.tmp 22, .tmp 24]) rfl ?_); at_builtin; refine Kd.R_append k92 (w0 := w) w.heap.size rfl (.tmp 22) (.tmp 24) 23 92 (.agg #[(.string ⟨#[]⟩), (.string ⟨#[]⟩), (.int .i64 0), (.int .i64 0), (.int .i64 0), (.int .i64 0), (.int .i64 0)]) 72 rfl Tryd.underlying23 info92 rfl (by decide) (by omega) u155000 x155000_1 (⟨t155, t156, t157, t158, t159, t160, t161⟩ : S92) [.string t155, .string t156, .int .i64 t157, .int .i64 t158, .int .i64 t159, .int .i64 t160, .int .i64 t161] (fun k_ => k_ ≠ zE) (fun _ => False) rfl (by first | (go_simp; done) | (go_simp; rfl)) ?aP (fun _ hk => hk.elim) ?aF ?aO ?aB ?aS ?aL ?_; (case aP => exact k92_mkM _ _ _ (⟨t155, t156, t157, t158, t159, t160, t161⟩ : S92)); (case aB => exact (by repeat (first | (with_reducible first | exact HB.out | apply ze | apply zc | apply zd | refine zj ?_ zJ.out | refine zj ?_ zL.out | refine zj ?_ zQ.out) | exact HB.out))); (case aF => exact (fun k_ hk => Kd.freshB (g := zE) (o := .cells #[.string t155, .string t156, .int .i64 t157, .int .i64 t158, .int .i64 t159, .int .i64 t160, .int .i64 t161] 92 (0, 0)) (by (with_reducible repeat (first | refine zi ?_ _ | refine zk ?_ | refine zh ?_ _)); refine zx (cs := #[.string t155, .string t156, .int .i64 t157, .int .i64 t158, .int .i64 t159, .int .i64 t160, .int .i64 0]) ?_ 6 _ rfl; (with_reducible repeat (first | refine zi ?_ _ | refine zk ?_ | refine zh ?_ _)); refine zx (cs := #[.string t155, .string t156, .int .i64 t157, .int .i64 t158, .int .i64 t159, .int .i64 0, .int .i64 0]) ?_ 5 _ rfl; (with_reducible repeat (first | refine zi ?_ _ | refine zk ?_ | refine zh ?_ _)); refine zx (cs := #[.string t155, .string t156, .int .i64 t157, .int .i64 t158, .int .i64 0, .int .i64 0, .int .i64 0]) ?_ 4 _ rfl; (with_reducible repeat (first | refine zi ?_ _ | refine zk ?_ | refine zh ?_ _)); refine zx (cs := #[.string t155, .string t156, .int .i64 t157, .int .i64 0, .int .i64 0, .int .i64 0, .int .i64 0]) ?_ 3 _ rfl; (with_reducible repeat (first | refine zi ?_ _ | refine zk ?_ | refine zh ?_ _)); refine zx (cs := #[.string t155, .string t156, .int .i64 0, .int .i64 0, .int .i64 0, .int .i64 0, .int .i64 0]) ?_ 2 _ rfl; (with_reducible repeat (first | refine zi ?_ _ | refine zk ?_ | refine zh ?_ _)); refine zx (cs := #[.string t155, .string (⟨#[]⟩ : ByteArray), .int .i64 0, .int .i64 0, .int .i64 0, .int .i64 0, .int .i64 0]) ?_ 1 _ rfl; (with_reducible repeat (first | refine zi ?_ _ | refine zk ?_ | refine zh ?_ _)); refine zx (cs := #[.string (⟨#[]⟩ : ByteArray), .string (⟨#[]⟩ : ByteArray), .int .i64 0, .int .i64 0, .int .i64 0, .int .i64 0, .int .i64 0]) ?_ 0 _ rfl; (with_reducible repeat (first | refine zi ?_ _ | refine zk ?_ | refine zh ?_ _)); exact zG.out) k_ hk)); (case aO => exact (by (with_reducible repeat (first | apply Kd.R_alloc | apply Kd.R_drewN | apply Kd.R_drew)); exact Kd.R_mono (Kd.R_far (p := ⟨zE, 6, none⟩) (Kd.R_far (p := ⟨zE, 5, none⟩) (Kd.R_far (p := ⟨zE, 4, none⟩) (Kd.R_far (p := ⟨zE, 3, none⟩) (Kd.R_far (p := ⟨zE, 2, none⟩) (Kd.R_far (p := ⟨zE, 1, none⟩) (Kd.R_far (p := ⟨zE, 0, none⟩) (Kd.R_mono zB.out (fun k_ hk => (⟨hk, hk.2⟩ : _ ∧ k_ ≠ zE))) (fun _ hk => hk.2) (.string t155)) (fun _ hk => hk.2) (.string t156)) (fun _ hk => hk.2) (.int .i64 t157)) (fun _ hk => hk.2) (.int .i64 t158)) (fun _ hk => hk.2) (.int .i64 t159)) (fun _ hk => hk.2) (.int .i64 t160)) (fun _ hk => hk.2) (.int .i64 t161)) (fun _ hk => hk.1.2))); (case aS => exact (zm (by repeat (first | (with_reducible first | exact HB.out | apply ze | apply zc | apply zd | refine zj ?_ zJ.out | refine zj ?_ zL.out | refine zj ?_ zQ.out) | exact HB.out)))); (case aL => have := LMc16.out; omega); intro v165 w24 ho hb hg hat; rw [← Ny164.out] at ho; have n0_ := Aside0.mk (blk_grown (g := zF) (o := .cells #[.bool x154000_1, .slice none 0 0] 27 (0, 0)) (by (with_reducible repeat (first | refine zi ?_ _ | refine zk ?_ | refine zh ?_ _)); refine blk_far ?_ zH.out _; (with_reducible repeat (first | refine zi ?_ _ | refine zk ?_ | refine zh ?_ _)); refine blk_far ?_ zH.out _; (with_reducible repeat (first | refine zi ?_ _ | refine zk ?_ | refine zh ?_ _)); refine blk_far ?_ zH.out _; (with_reducible repeat (first | refine zi ?_ _ | refine zk ?_ | refine zh ?_ _)); refine blk_far ?_ zH.out _; (with_reducible repeat (first | refine zi ?_ _ | refine zk ?_ | refine zh ?_ _)); refine blk_far ?_ zH.out _; (with_reducible repeat (first | refine zi ?_ _ | refine zk ?_ | refine zh ?_ _)); refine blk_far ?_ zH.out _; (with_reducible repeat (first | refine zi ?_ _ | refine zk ?_ | refine zh ?_ _)); refine blk_far ?_ zH.out _; (with_reducible repeat (first | refine zi ?_ _ | refine zk ?_ | refine zh ?_ _)); exact zC.out) hg (Kd.R_ne zB.out zC.out (by decide))); have n1_ := Aside0.mk (blk_grown (g := zI) (o := .cells #[u155000] 25 (0, 0)) (by (with_reducible repeat (first | refine zi ?_ _ | refine zk ?_ | refine zh ?_ _)); refine blk_far ?_ zK.out _; (with_reducible repeat (first | refine zi ?_ _ | refine zk ?_ | refine zh ?_ _)); refine blk_far ?_ zK.out _; (with_reducible repeat (first | refine zi ?_ _ | refine zk ?_ | refine zh ?_ _)); refine blk_far ?_ zK.out _; (with_reducible repeat (first | refine zi ?_ _ | refine zk ?_ | refine zh ?_ _)); refine blk_far ?_ zK.out _; (with_reducible repeat (first | refine zi ?_ _ | refine zk ?_ | refine zh ?_ _)); refine blk_far ?_ zK.out _; (with_reducible repeat (first | refine zi ?_ _ | refine zk ?_ | refine zh ?_ _)); refine blk_far ?_ zK.out _; (with_reducible repeat (first | refine zi ?_ _ | refine zk ?_ | refine zh ?_ _)); refine blk_far ?_ zK.out _; (with_reducible repeat (first | refine zi ?_ _ | refine zk ?_ | refine zh ?_ _)); exact zD.out) hg (Kd.R_ne zB.out zD.out (by decide))); have n2_ := Aside0.mk (blk_grown (g := zE) (o := .cells #[.string t155, .string t156, .int .i64 t157, .int .i64 t158, .int .i64 t159, .int .i64 t160, .int .i64 t161] 92 (0, 0)) (by (with_reducible repeat (first | refine zi ?_ _ | refine zk ?_ | refine zh ?_ _)); refine zx (cs := #[.string t155, .string t156, .int .i64 t157, .int .i64 t158, .int .i64 t159, .int .i64 t160, .int .i64 0]) ?_ 6 _ rfl; (with_reducible repeat (first | refine zi ?_ _ | refine zk ?_ | refine zh ?_ _)); refine zx (cs := #[.string t155, .string t156, .int .i64 t157, .int .i64 t158, .int .i64 t159, .int .i64 0, .int .i64 0]) ?_ 5 _ rfl; (with_reducible repeat (first | refine zi ?_ _ | refine zk ?_ | refine zh ?_ _)); refine zx (cs := #[.string t155, .string t156, .int .i64 t157, .int .i64 t158, .int .i64 0, .int .i64 0, .int .i64 0]) ?_ 4 _ rfl; (with_reducible repeat (first | refine zi ?_ _ | refine zk ?_ | refine zh ?_ _)); refine zx (cs := #[.string t155, .string t156, .int .i64 t157, .int .i64 0, .int .i64 0, .int .i64 0, .int .i64 0]) ?_ 3 _ rfl; (with_reducible repeat (first | refine zi ?_ _ | refine zk ?_ | refine zh ?_ _)); refine zx (cs := #[.string t155, .string t156, .int .i64 0, .int .i64 0, .int .i64 0, .int .i64 0, .int .i64 0]) ?_ 2 _ rfl; (with_reducible repeat (first | refine zi ?_ _ | refine zk ?_ | refine zh ?_ _)); refine zx (cs := #[.string t155, .string (⟨#[]⟩ : ByteArray), .int .i64 0, .int .i64 0, .int .i64 0, .int .i64 0, .int .i64 0]) ?_ 1 _ rfl; (with_reducible repeat (first | refine zi ?_ _ | refine zk ?_ | refine zh ?_ _)); refine zx (cs := #[.string (⟨#[]⟩ : ByteArray), .string (⟨#[]⟩ : ByteArray), .int .i64 0, .int .i64 0, .int .i64 0, .int .i64 0, .int .i64 0]) ?_ 0 _ rfl; (with_reducible repeat (first | refine zi ?_ _ | refine zk ?_ | refine zh ?_ _)); exact zG.out) hg (Kd.R_away zB.out (fun _ hk => hk.2))); have n3_ := Aside0.mk (hb); have n4_ := Aside0.mk (ho); clear zC; clear zD; clear zG; clear HB; clear zB; have zC := n0_; have zD := n1_; have zG := n2_; have HB := n3_; have zR := n4_; clear n0_ n1_ n2_ n3_ n4_; clear ho hb hg hat; obtain ⟨Ao25, co25, eo25⟩ := Kd.R_slice zR.out; subst eo25; have zCb : w24.cell? ⟨zI, 0, none⟩ = some (u155000) := (zg zD.out 0).trans rfl; have zDb := zf zD.out 0))
      go_roundg k1
      case measure => have := HK1.out; omega
      case rel => exact ⟨(t162), (x154000_1), (y164), (.slice Ao25 y164.length co25), (by first | rfl | (simp; done) | (simp [*]; done)), H', ⟨by have := HK1.out; omega⟩, ⟨by (with_reducible repeat (first | apply Kd.R_alloc | apply Kd.R_drewN | apply Kd.R_drew)); exact Kd.R_mono (Kd.R_far (p := ⟨zI, 0, none⟩) (Kd.R_types zR.out zD.out (by decide)) (fun _ hk => hk.2) (.slice Ao25 y164.length co25)) (fun _ hk => trivial)⟩, ⟨by (with_reducible repeat (first | refine zi ?_ _ | refine zk ?_ | refine zh ?_ _)); refine blk_far ?_ zM.out _; (with_reducible repeat (first | refine zi ?_ _ | refine zk ?_ | refine zh ?_ _)); exact zC.out⟩, ⟨by (with_reducible repeat (first | refine zi ?_ _ | refine zk ?_ | refine zh ?_ _)); refine zx (cs := #[u155000]) ?_ 0 _ rfl; (with_reducible repeat (first | refine zi ?_ _ | refine zk ?_ | refine zh ?_ _)); exact zD.out⟩, ⟨by repeat (first | (with_reducible first | exact HB.out | apply ze | apply zc | apply zd | refine zj ?_ zJ.out | refine zj ?_ zL.out | refine zj ?_ zQ.out) | exact HB.out)⟩⟩
     ·rw [if_neg c16] at H
      exact absurd H (by simp)
   ·rw [if_neg c6] at H
    have c6b0 : decide (x4_1 < (l0.length : Int)) = false := decide_eq_false c6
    clear c6
    replace H := Option.bind_eq_some_iff.mp H
    obtain ⟨t167, A270, H⟩ := H
    replace H : (if t167 = true then (some (true, x155000_1)) else (some (false, ([] : List (S92))))) = some (r1, r2) := H
    have A27 := Aside0.mk A270
    clear A270
    by_cases c28 : t167 = true
    ·subst c28
     have H1 : (some (true, x155000_1)) = some (r1, r2) := by rw [if_pos rfl] at H; exact H
     clear H
     have H := H1
     clear H1
     simp only [Option.some.injEq, Prod.mk.injEq] at H
     obtain ⟨rfl, rfl⟩ := H
     have zec := zN.out
     have zfc := zM.out
     have zEb : wr.cell? ⟨zI, 0, none⟩ = some (u155000) := (zg zD.out 0).trans rfl
     have zFb := zf zD.out 0
     obtain ⟨Ao31, co31, eo31⟩ := Kd.R_slice zB.out
     subst eo31
     go_wp2_with (first | ((with_reducible refine zq (f := 41) rfl ?_); refine zz (some 29) rfl rfl Tryd.func41 (by kernel_rfl) rfl #[.agg #[.slice Ao31 x155000_1.length co31]] rfl (by (try simp only [List.map_toArray, List.map_cons, List.map_nil]); first | done | rfl | (simp only [List.length_drop, List.length_take]; rfl)) ?_; (with_reducible refine (spec_ValidTree.calls k1 _ _ x155000_1 true _ ?side1 ?side2 A27.out).mono ?_); (case side1 => repeat (first | exact (Kd.R_reads' zB.out).2.2 | (with_reducible refine Kd.C_alloc ?_ _) | (with_reducible refine Kd.C_drewN ?_ _) | (with_reducible refine Kd.C_drew ?_))); (case side2 => exact (Kd.R_reads' zB.out).2.1); rintro e w32 ⟨rfl, hb⟩; refine ⟨_, rfl, ?_⟩; have n0_ := Aside0.mk (Kd.R_below (by (with_reducible repeat (first | apply Kd.R_alloc | apply Kd.R_drewN | apply Kd.R_drew)); exact zB.out) hb); have n1_ := Aside0.mk (zt (g := zF) (o := .cells #[.bool x154000_1, .slice none 0 0] 27 (0, 0)) (by (with_reducible repeat (first | refine zi ?_ _ | refine zk ?_ | refine zh ?_ _)); exact zC.out) hb); have n2_ := Aside0.mk (zt (g := zI) (o := .cells #[.slice Ao31 x155000_1.length co31] 25 (0, 0)) (by (with_reducible repeat (first | refine zi ?_ _ | refine zk ?_ | refine zh ?_ _)); exact zD.out) hb); have n3_ := Aside0.mk (zl (by repeat (first | (with_reducible first | exact HB.out | apply ze | apply zc | apply zd | refine zj ?_ zJ.out | refine zj ?_ zL.out) | exact HB.out)) hb); clear zB; clear zC; clear zD; clear HB; have zB := n0_; have zC := n1_; have zD := n2_; have HB := n3_; clear n0_ n1_ n2_ n3_; (try clear hb); (try clear hb2); (try clear hk); (try clear hi); have zGb : w32.cell? ⟨zI, 0, none⟩ = some (.slice Ao31 x155000_1.length co31) := (zg zD.out 0).trans rfl; have zHb := zf zD.out 0; have zIb : w32.cell? ⟨zF, 0, none⟩ = some (.bool x154000_1) := (zg zC.out 0).trans rfl; have zJb : w32.cell? ⟨zF, 1, none⟩ = some (.slice none 0 0) := (zg zC.out 1).trans rfl; have zKb := zf zC.out 0; have zLb := zf zC.out 1))
     refine bodyPost_ret (results_cell_row rfl _ _ zF 27 #[.bool true, .slice Ao31 x155000_1.length co31] (0, 0) _ rfl (by (with_reducible repeat (first | refine zi ?_ _ | refine zk ?_ | refine zh ?_ _)); refine zx (cs := #[.bool true, .slice none 0 0]) ?_ 1 _ rfl; (with_reducible repeat (first | refine zi ?_ _ | refine zk ?_ | refine zh ?_ _)); refine zx (cs := #[.bool x154000_1, .slice none 0 0]) ?_ 0 _ rfl; (with_reducible repeat (first | refine zi ?_ _ | refine zk ?_ | refine zh ?_ _)); exact zC.out) Tryd.underlying27 rfl (by kernel_rfl)) rfl ?_
     exact ⟨_, by first | rfl | (simp [errW_none, errW_some] <;> rfl) | (simp [*, errW_none, errW_some] <;> rfl), by (with_reducible repeat (first | apply Kd.R_alloc | apply Kd.R_drewN | apply Kd.R_drew)); exact Kd.R_mono (Kd.R_far (p := ⟨zF, 1, none⟩) (Kd.R_far (p := ⟨zF, 0, none⟩) (Kd.R_types zB.out zC.out (by decide)) (fun _ hk => hk.2) (.bool true)) (fun _ hk => hk.2) (.slice Ao31 x155000_1.length co31)) (fun _ hk => trivial), by repeat (first | (with_reducible first | exact HB.out | apply ze | apply zc | apply zd | refine zj ?_ zJ.out | refine zj ?_ zL.out) | exact HB.out)⟩
    ·replace c28 := Bool.eq_false_iff.mpr c28
     subst c28
     have H1 : (some (false, ([] : List (S92)))) = some (r1, r2) := by rw [if_neg (show ¬ (false = true) by decide)] at H; exact H
     clear H
     have H := H1
     clear H1
     simp only [Option.some.injEq, Prod.mk.injEq] at H
     obtain ⟨rfl, rfl⟩ := H
     have zgc := zN.out
     have zhc := zM.out
     have zMb : wr.cell? ⟨zI, 0, none⟩ = some (u155000) := (zg zD.out 0).trans rfl
     have zNb := zf zD.out 0
     obtain ⟨Ao37, co37, eo37⟩ := Kd.R_slice zB.out
     subst eo37
     go_wp2_with (first | ((with_reducible refine zq (f := 41) rfl ?_); refine zz (some 29) rfl rfl Tryd.func41 (by kernel_rfl) rfl #[.agg #[.slice Ao37 x155000_1.length co37]] rfl (by (try simp only [List.map_toArray, List.map_cons, List.map_nil]); first | done | rfl | (simp only [List.length_drop, List.length_take]; rfl)) ?_; (with_reducible refine (spec_ValidTree.calls k1 _ _ x155000_1 false _ ?side1 ?side2 A27.out).mono ?_); (case side1 => repeat (first | exact (Kd.R_reads' zB.out).2.2 | (with_reducible refine Kd.C_alloc ?_ _) | (with_reducible refine Kd.C_drewN ?_ _) | (with_reducible refine Kd.C_drew ?_))); (case side2 => exact (Kd.R_reads' zB.out).2.1); rintro e w38 ⟨rfl, hb⟩; refine ⟨_, rfl, ?_⟩; have n0_ := Aside0.mk (Kd.R_below (by (with_reducible repeat (first | apply Kd.R_alloc | apply Kd.R_drewN | apply Kd.R_drew)); exact zB.out) hb); have n1_ := Aside0.mk (zt (g := zF) (o := .cells #[.bool x154000_1, .slice none 0 0] 27 (0, 0)) (by (with_reducible repeat (first | refine zi ?_ _ | refine zk ?_ | refine zh ?_ _)); exact zC.out) hb); have n2_ := Aside0.mk (zt (g := zI) (o := .cells #[.slice Ao37 x155000_1.length co37] 25 (0, 0)) (by (with_reducible repeat (first | refine zi ?_ _ | refine zk ?_ | refine zh ?_ _)); exact zD.out) hb); have n3_ := Aside0.mk (zl (by repeat (first | (with_reducible first | exact HB.out | apply ze | apply zc | apply zd | refine zj ?_ zJ.out | refine zj ?_ zL.out) | exact HB.out)) hb); clear zB; clear zC; clear zD; clear HB; have zB := n0_; have zC := n1_; have zD := n2_; have HB := n3_; clear n0_ n1_ n2_ n3_; (try clear hb); (try clear hb2); (try clear hk); (try clear hi); have zOb : w38.cell? ⟨zF, 0, none⟩ = some (.bool x154000_1) := (zg zC.out 0).trans rfl; have zPb : w38.cell? ⟨zF, 1, none⟩ = some (.slice none 0 0) := (zg zC.out 1).trans rfl; have zQb := zf zC.out 0; have zRb := zf zC.out 1))
     refine bodyPost_ret (results_cell_row rfl _ _ zF 27 #[.bool false, .slice none 0 0] (0, 0) _ rfl (by (with_reducible repeat (first | refine zi ?_ _ | refine zk ?_ | refine zh ?_ _)); refine zx (cs := #[.bool false, .slice none 0 0]) ?_ 1 _ rfl; (with_reducible repeat (first | refine zi ?_ _ | refine zk ?_ | refine zh ?_ _)); refine zx (cs := #[.bool x154000_1, .slice none 0 0]) ?_ 0 _ rfl; (with_reducible repeat (first | refine zi ?_ _ | refine zk ?_ | refine zh ?_ _)); exact zC.out) Tryd.underlying27 rfl (by kernel_rfl)) rfl ?_
     exact ⟨_, by first | rfl | (simp [errW_none, errW_some] <;> rfl) | (simp [*, errW_none, errW_some] <;> rfl), by first | exact Kd.R_nil _ _ _ _ _ | exact Kd.N_nil _ _ _ _ _ | exact Kd.V_nil _ _ _ _ _ | exact Kd.Q_nil _ _ _ _ _ | exact Kd.S_nil _ _ _ _ _, by repeat (first | (with_reducible first | exact HB.out | apply ze | apply zc | apply zd | refine zj ?_ zJ.out | refine zj ?_ zL.out) | exact HB.out)⟩

def laws_toByteS.l0 : Nat → List Int → List Int → Int → Option (List Int)
 | 0, _, _, _ => none
 | k + 1, x0, x3, x4 => if x4 < (x0.length : Int) then (if 0 ≤ x4 then (if x4 < (x3.length : Int) then (laws_toByteS.l0 k x0 (x3.set (x4 : Int).toNat (rd x0 x4)) (wrap64 (x4 + 1))) else (none)) else (none)) else (some x3)
def laws_toByteS.f (k : Nat) (l0 : List Int) : Option (List Int) := if 0 ≤ (l0.length : Int) then (if ((l0.length : Int) : Int).toNat ≤ 281474976710656 then (laws_toByteS.l0 k l0 (List.replicate ((l0.length : Int) : Int).toNat 0) 0) else (none)) else (none)
theorem laws_toByteS.mono_l : ∀ k, (∀ y0 y1 y2, LeO (laws_toByteS.l0 k y0 y1 y2) (laws_toByteS.l0 (k + 1) y0 y1 y2))
 | 0 => fun _ _ _ r h => by simp [laws_toByteS.l0] at h
 | k + 1 => by
  have ih0 := laws_toByteS.mono_l k
  ·intro y0 y1 y2
   unfold laws_toByteS.l0
   repeat' first
   | (with_reducible exact ih0 _ _ _)
   | (with_reducible exact LeO.refl _)
   | (with_reducible exact LeO.none _)
   | (with_reducible refine LeO.ite ?_ ?_)
   | (with_reducible refine LeO.bind ?_ (fun _ => ?_))
   | exact ih0 _ _ _
   | exact LeO.none _
   | refine LeO.ite ?_ ?_
   | refine LeO.bind ?_ (fun _ => ?_)
theorem laws_toByteS.mono : ∀ a0 k, LeO (laws_toByteS.f k a0) (laws_toByteS.f (k + 1) a0) := by
 intro a0 k
 have ih0 := laws_toByteS.mono_l k
 unfold laws_toByteS.f
 repeat' first
   | (with_reducible exact ih0 _ _ _)
   | (with_reducible exact LeO.refl _)
   | (with_reducible exact LeO.none _)
   | (with_reducible refine LeO.ite ?_ ?_)
   | (with_reducible refine LeO.bind ?_ (fun _ => ?_))
   | exact ih0 _ _ _
   | exact LeO.none _
   | refine LeO.ite ?_ ?_
   | refine LeO.bind ?_ (fun _ => ?_)
set_option maxHeartbeats 8000000 in
set_option maxRecDepth 100000 in
theorem laws_toByteS.calls (k : Nat) (A0 : Option Addr) (c0 : Nat) (l0 : List Int) (r : List Int) (w : World) (hr0 : Kd.C (Kd.int .u8) w A0 l0.length l0) (hc0 : l0.length ≤ c0) (h : laws_toByteS.f k l0 = some r) :
  Calls Tryd.prog 12 #[.slice A0 l0.length c0] w fun e w' => ∃ v0_ : Value, e = .returned (v0_) ∧ Kd.R (Kd.int .u8) 5 w' w.heap.size (fun _ => True) v0_ r ∧ Below w.heap.size w w' := by
 have HR0 := Aside0.mk hr0
 have HC0 := Aside0.mk hc0
 clear hr0 hc0
 have HB := Aside0.mk (Below.refl w.heap.size w)
 have H : (if 0 ≤ (l0.length : Int) then (if ((l0.length : Int) : Int).toNat ≤ 281474976710656 then (laws_toByteS.l0 k l0 (List.replicate ((l0.length : Int) : Int).toNat 0) 0) else (none)) else (none)) = some r := h
 clear h
 by_cases c2 : 0 ≤ (l0.length : Int)
 ·rw [if_pos c2] at H
  have c2b0 := eq_true c2
  have c2b1 : decide (0 ≤ (l0.length : Int)) = true := decide_eq_true c2
  clear c2
  by_cases c3 : ((l0.length : Int) : Int).toNat ≤ 281474976710656
  ·rw [if_pos c3] at H
   have c3b0 := eq_true c3
   have c3b1 : decide (((l0.length : Int) : Int).toNat ≤ 281474976710656) = true := decide_eq_true c3
   clear c3
   obtain ⟨y168, hy168⟩ : ∃ y_ : List Int, y_ = (List.replicate ((l0.length : Int) : Int).toNat 0) := ⟨_, rfl⟩
   replace H : (laws_toByteS.l0 k l0 y168 0) = some r := by first | (rw [hy168]; with_reducible exact H) | (have H2_ := (Option.bind_some _ _).symm.trans H; rw [hy168]; with_reducible exact H2_) | (have H2_ := (Option.bind_some _ _).symm.trans H; with_reducible exact H2_) | with_reducible exact H | (rw [hy168]; exact H) | exact H
   have Ny168 := Aside0.mk hy168
   clear hy168
   have H' := Aside0.mk H
   clear H
   go_enter Tryd.func12, Tryd.ntmps12
   go_wp2_with (first | ((with_reducible refine zv (N := 7) rfl ?_); refine Kd.R_make (Kd.int .u8) _ 5 rfl (N := 7) rfl 22 _ _ rfl (l0.length : Int) rfl rfl Tryd.underlying22 (.int .u8 0) 1 info5 rfl (by decide) (by omega) 0 (ok := fun _ => True) (okp := fun _ => True) rfl (fun _ hk => hk) trivial (of_decide_eq_true (by first | (with_reducible assumption) | assumption)) (Nat.le_trans (Nat.mul_le_mul_right _ (of_decide_eq_true (by first | (with_reducible assumption) | assumption) : (l0.length : Int).toNat ≤ 281474976710656)) (by omega)) (Below.refl _ _) (Nat.le_refl _) ?_; intro v169 w4 zC hb hg_ hnew_; clear hg_ hnew_; (first | rw [← Ny168.out] at zC | (simp only [Int.reduceToNat] at zC; rw [← Ny168.out] at zC)); have n0_ := Aside0.mk (Kd.R_lower zC (zm (by repeat (first | (with_reducible first | exact HB.out | apply ze | apply zc | apply zd) | exact HB.out)))); have n1_ := Aside0.mk (zl (by repeat (first | (with_reducible first | exact HB.out | apply ze | apply zc | apply zd) | exact HB.out)) hb); clear HB; have zD := n0_; have HB := n1_; clear n0_ n1_; clear hb zC))
   go_loopg [4] k (fun kq v4 w' => ∃ (x3_1 : List Int) (x4_1 : Int), v4 = .int .i64 x4_1 ∧ Aside0 (laws_toByteS.l0 kq l0 x3_1 x4_1 = some r) ∧ Aside0 (kq ≤ k) ∧ Aside0 (Kd.R (Kd.int .u8) 5 w' w.heap.size (fun _ => True) v169 x3_1) ∧ Aside0 (Below w.heap.size w w'))
   case atStart => exact ⟨(y168), (0), (by first | rfl | (simp; done) | (simp [*]; done)), H', ⟨Nat.le_refl _⟩, ⟨by (with_reducible repeat (first | apply Kd.R_alloc | apply Kd.R_drewN | apply Kd.R_drew)); exact zD.out⟩, ⟨by repeat (first | (with_reducible first | exact HB.out | apply ze | apply zc | apply zd) | exact HB.out)⟩⟩
   case round =>
    clear H'
    try clear c1
    try clear c2
    try clear c2b0
    try clear c2b1
    try clear p2
    try clear c3
    try clear c3b0
    try clear c3b1
    obtain ⟨x3_1, x4_1, rfl, HA, HK1, zB, HB⟩ := hrel
    cases gk with
    | zero => exact absurd HA.out (by simp [laws_toByteS.l0])
    | succ k1 =>
     have H := HA.out
     clear HA
     simp only [laws_toByteS.l0] at H
     by_cases c6 : x4_1 < (l0.length : Int)
     ·rw [if_pos c6] at H
      have c6b0 : decide (x4_1 < (l0.length : Int)) = true := decide_eq_true c6
      clear c6
      by_cases c7 : 0 ≤ x4_1
      ·rw [if_pos c7] at H
       have c7b0 : decide (0 ≤ x4_1) = true := decide_eq_true c7
       clear c7
       by_cases c8 : x4_1 < (x3_1.length : Int)
       ·rw [if_pos c8] at H
        have c8b0 : decide (x4_1 < (x3_1.length : Int)) = true := decide_eq_true c8
        clear c8
        obtain ⟨y172, hy172⟩ : ∃ y_ : List Int, y_ = (x3_1.set (x4_1 : Int).toNat (rd l0 x4_1)) := ⟨_, rfl⟩
        replace H : (laws_toByteS.l0 k1 l0 y172 (wrap64 (x4_1 + 1))) = some r := by first | (rw [hy172]; with_reducible exact H) | (have H2_ := (Option.bind_some _ _).symm.trans H; rw [hy172]; with_reducible exact H2_) | (have H2_ := (Option.bind_some _ _).symm.trans H; with_reducible exact H2_) | with_reducible exact H | (rw [hy172]; exact H) | exact H
        have Ny172 := Aside0.mk hy172
        clear hy172
        have H' := Aside0.mk H
        clear H
        have p171 : 0 ≤ (x4_1 : Int) := of_decide_eq_true (by first | (with_reducible assumption) | assumption)
        have q171 : x4_1 < (l0.length : Int) := of_decide_eq_true (by first | (with_reducible assumption) | assumption)
        obtain ⟨ad171, e171, hx171_0⟩ := Kd.at_int HR0.out x4_1 p171 q171
        cases e171
        replace hx171_0 := zb HB.out hx171_0
        replace p171 := eq_true p171
        replace q171 := eq_true q171
        have p9 : 0 ≤ (x4_1 : Int) := of_decide_eq_true (by first | (with_reducible assumption) | assumption)
        have q9 : (x4_1 : Int) < ((x3_1.length : Int) : Int) := of_decide_eq_true (by first | (with_reducible assumption) | assumption)
        obtain ⟨go9, co9, eo9, zE, gl9, cl9, HG9⟩ := Kd.R_form zB.out (by omega)
        (first | cases eo9 | (injection eo9 with ea_ en_ ec_; (first | subst ea_ | (injection ea_ with ea_; subst ea_)); subst ec_; clear en_))
        have GB9 := Aside0.mk zE
        have GG9 := Aside0.mk HG9
        clear zE gl9 HG9
        obtain ⟨hx9_0, hf9_0⟩ := Kd.R_celln 0 zB.out (x4_1 : Int) p9 q9
        replace p9 := eq_true p9
        replace q9 := eq_true q9
        have HP10 := Kd.R_putg zB.out (x4_1 : Int) (rd l0 x4_1)
        go_wp2_with (first | ((with_reducible refine gate_store (t := 5) (p := 20) rfl ?_); refine store_event (t := 5) (p := 20) (v := ?vo_w11) (w1 := (wr.setCell ⟨go9, (x4_1 : Int).toNat, none⟩ (.int .u8 (rd l0 x4_1)))) ?hg ?ho ?hn ?hr ?_; (case ho => rfl); (case hg => rfl); (case hn => rfl); (case hr => first | (go_simp; done) | (go_simp; rfl)); intro w11 hw; have hg : wr.grownBy w11 (some go9) := (by rw [hw]; exact HP10.2); have hp_ : Kd.R (Kd.int .u8) 5 w11 w.heap.size (fun _ => True) (.slice (some ⟨go9, 0, none⟩) x3_1.length co9) y172 := (by rw [hw, Ny172.out]; exact HP10.1); clear HP10; have n0_ := Aside0.mk (hp_); have n1_ := Aside0.mk ((by rw [hw]; exact zj (HB.out) GB9.out : Below w.heap.size w w11)); clear zB; clear HB; have zB := n0_; have HB := n1_; clear n0_ n1_; clear hg hw hp_))
        go_roundg k1
        case measure => have := HK1.out; omega
        case rel => exact ⟨(y172), (wrap64 (x4_1 + 1)), (by first | rfl | (simp; done) | (simp [*]; done)), H', ⟨by have := HK1.out; omega⟩, ⟨by (with_reducible repeat (first | apply Kd.R_alloc | apply Kd.R_drewN | apply Kd.R_drew)); exact zB.out⟩, ⟨by repeat (first | (with_reducible first | exact HB.out | apply ze | apply zc | apply zd) | exact HB.out)⟩⟩
       ·rw [if_neg c8] at H
        exact absurd H (by simp)
      ·rw [if_neg c7] at H
       exact absurd H (by simp)
     ·rw [if_neg c6] at H
      have c6b0 : decide (x4_1 < (l0.length : Int)) = false := decide_eq_false c6
      clear c6
      obtain rfl := Option.some.inj H
      go_wp2
      go_ret
      exact ⟨_, by first | rfl | (simp [errW_none, errW_some] <;> rfl) | (simp [*, errW_none, errW_some] <;> rfl), by (with_reducible repeat (first | apply Kd.R_alloc | apply Kd.R_drewN | apply Kd.R_drew)); exact zB.out, by repeat (first | (with_reducible first | exact HB.out | apply ze | apply zc | apply zd) | exact HB.out)⟩
  ·rw [if_neg c3] at H
   exact absurd H (by simp)
 ·rw [if_neg c2] at H
  exact absurd H (by simp)

def strings_Split.f (a0 : ByteArray) (a1 : ByteArray) : Option (List ByteArray) := if a0.size < 4294967281 ∧ 1 ≤ a1.size ∧ Go.Lib.countB a0 a1 ≤ 1000000 then some (Go.Lib.splitB a1 0 (Go.Lib.countB a0 a1) a0) else none
theorem split_len (sep : ByteArray) (h1 : 1 ≤ sep.size) : ∀ (n : Nat) (s : ByteArray), s.size ≤ n → (Go.Lib.splitB sep 0 (Go.Lib.countB s sep) s).length = Go.Lib.countB s sep + 1 := by
 intro n
 induction n with
 | zero =>
  intro s hs
  rcases Go.Lib.indexB_cases s sep with hix | ⟨i, hix, hroom⟩
  ·rw [Go.Lib.countB_miss s sep hix]; rfl
  ·omega
 | succ n ih =>
  intro s hs
  rcases Go.Lib.indexB_cases s sep with hix | ⟨i, hix, hroom⟩
  ·rw [Go.Lib.countB_miss s sep hix]; rfl
  ·rw [Go.Lib.countB_hit s sep i h1 hix, Nat.add_comm 1, Go.Lib.splitB_hit sep 0 _ s i hix, List.length_cons, ih _ (by simp only [ByteArray.size_extract]; omega)]
set_option maxRecDepth 100000 in
theorem strings_Split.calls (a0 : ByteArray) (a1 : ByteArray) (r : List ByteArray) (w : World) (h : strings_Split.f a0 a1 = some r) (hGMAX_ : Go.Proofs.YtjoafknckmoojaaDoorH.GFMAX w) :
  Calls Tryd.prog 125 #[.string a0, .string a1] w fun e w' => ∃ v0_ : Value, e = .returned (v0_) ∧ Kd.R Kd.string 9 w' w.heap.size (fun _ => True) v0_ r ∧ Below w.heap.size w w' := by
 unfold strings_Split.f at h
 by_cases hc : a0.size < 4294967281 ∧ 1 ≤ a1.size ∧ Go.Lib.countB a0 a1 ≤ 1000000
 ·rw [if_pos hc] at h
  obtain rfl := Option.some.inj h
  obtain ⟨m, hm⟩ := hGMAX_
  have hl := split_len a1 hc.2.1 a0.size a0 (Nat.le_refl _)
  refine (Go.Proofs.Tryd.strings_Split a0 a1 m w hc.1 hm hc.2.1).mono ?_
  rintro e w' ⟨rfl, rfl⟩
  refine ⟨_, rfl, ?_, ze (Below.refl _ _) _⟩
  rw [← hl]
  exact Go.Proofs.YtjoafknckmoojaaDoorH.R_of_arr Value.string (fun _ => rfl) (ok := fun _ => True) (blk_new w _) (Nat.le_refl _) trivial (by omega) (by omega)
 ·rw [if_neg hc] at h
  cases h

def stringslite_HasPrefix.f (a0 : ByteArray) (a1 : ByteArray) : Option (Bool) := if (a0.size : Int) ≥ (a1.size : Int) then (if 0 ≤ (a1.size : Int) then (if (a1.size : Int) ≤ (a0.size : Int) then (some ((a0.extract 0 ((a1.size : Int) : Int).toNat).toList == a1.toList)) else (none)) else (none)) else (some false)
set_option maxHeartbeats 8000000 in
set_option maxRecDepth 100000 in
theorem stringslite_HasPrefix.calls (a0 : ByteArray) (a1 : ByteArray) (r : Bool) (w : World) (h : stringslite_HasPrefix.f a0 a1 = some r) :
  Calls Tryd.prog 217 #[.string a0, .string a1] w fun e w' => e = .returned (.bool r) ∧ Drawn0 w w' := by
 have H : (if (a0.size : Int) ≥ (a1.size : Int) then (if 0 ≤ (a1.size : Int) then (if (a1.size : Int) ≤ (a0.size : Int) then (some ((a0.extract 0 ((a1.size : Int) : Int).toNat).toList == a1.toList)) else (none)) else (none)) else (some false)) = some r := h
 clear h
 by_cases c3 : (a0.size : Int) ≥ (a1.size : Int)
 ·rw [if_pos c3] at H
  have c3b0 : decide ((a1.size : Int) ≤ (a0.size : Int)) = true := decide_eq_true c3
  have c3b1 : decide (a1.size ≤ a0.size) = true := decide_eq_true (Int.ofNat_le.mp c3)
  clear c3
  by_cases c4 : 0 ≤ (a1.size : Int)
  ·rw [if_pos c4] at H
   have c4b0 := eq_true c4
   have c4b1 : decide (0 ≤ (a1.size : Int)) = true := decide_eq_true c4
   clear c4
   by_cases c5 : (a1.size : Int) ≤ (a0.size : Int)
   ·rw [if_pos c5] at H
    have c5b0 := eq_true c5
    have c5b1 : decide ((a1.size : Int) ≤ (a0.size : Int)) = true := decide_eq_true c5
    clear c5
    obtain rfl := Option.some.inj H
    go_enter Tryd.func217, Tryd.ntmps217
    go_wp2
    go_ret
    exact ⟨by first | rfl | (simp; done) | (simp [*]; done), by repeat (first | exact Drawn0.refl _ | apply Drawn0.step)⟩
   ·rw [if_neg c5] at H
    exact absurd H (by simp)
  ·rw [if_neg c4] at H
   exact absurd H (by simp)
 ·rw [if_neg c3] at H
  have c3b0 : decide ((a1.size : Int) ≤ (a0.size : Int)) = false := decide_eq_false c3
  have c3b1 : decide (a1.size ≤ a0.size) = false := decide_eq_false (fun h => c3 (Int.ofNat_le.mpr h))
  clear c3
  obtain rfl := Option.some.inj H
  go_enter Tryd.func217, Tryd.ntmps217
  go_wp2
  go_ret
  exact ⟨by first | rfl | (simp; done) | (simp [*]; done), by repeat (first | exact Drawn0.refl _ | apply Drawn0.step)⟩

def stringslite_CutPrefix.f (a0 : ByteArray) (a1 : ByteArray) : Option (ByteArray × Bool) := (stringslite_HasPrefix.f a0 a1).bind fun t173 => (if t173 = true then (if 0 ≤ (a1.size : Int) then (if (a1.size : Int) ≤ (a0.size : Int) then (some (a0.extract ((a1.size : Int) : Int).toNat a0.size, true)) else (none)) else (none)) else (some (a0, false)))
set_option maxHeartbeats 8000000 in
set_option maxRecDepth 100000 in
theorem stringslite_CutPrefix.calls (a0 : ByteArray) (a1 : ByteArray) (r1 : ByteArray) (r2 : Bool) (w : World) (h : stringslite_CutPrefix.f a0 a1 = some (r1, r2)) :
  Calls Tryd.prog 187 #[.string a0, .string a1] w fun e w' => e = .returned (.tuple #[.string r1, .bool r2]) ∧ Drawn0 w w' := by
 have H : ((stringslite_HasPrefix.f a0 a1).bind fun t173 => (if t173 = true then (if 0 ≤ (a1.size : Int) then (if (a1.size : Int) ≤ (a0.size : Int) then (some (a0.extract ((a1.size : Int) : Int).toNat a0.size, true)) else (none)) else (none)) else (some (a0, false)))) = some (r1, r2) := h
 clear h
 replace H := Option.bind_eq_some_iff.mp H
 obtain ⟨t173, A30, H⟩ := H
 replace H : (if t173 = true then (if 0 ≤ (a1.size : Int) then (if (a1.size : Int) ≤ (a0.size : Int) then (some (a0.extract ((a1.size : Int) : Int).toNat a0.size, true)) else (none)) else (none)) else (some (a0, false))) = some (r1, r2) := H
 have A3 := Aside0.mk A30
 clear A30
 by_cases c4 : t173 = true
 ·subst c4
  have H1 : (if 0 ≤ (a1.size : Int) then (if (a1.size : Int) ≤ (a0.size : Int) then (some (a0.extract ((a1.size : Int) : Int).toNat a0.size, true)) else (none)) else (none)) = some (r1, r2) := by rw [if_pos rfl] at H; exact H
  clear H
  have H := H1
  clear H1
  by_cases c5 : 0 ≤ (a1.size : Int)
  ·rw [if_pos c5] at H
   have c5b0 := eq_true c5
   have c5b1 : decide (0 ≤ (a1.size : Int)) = true := decide_eq_true c5
   clear c5
   by_cases c6 : (a1.size : Int) ≤ (a0.size : Int)
   ·rw [if_pos c6] at H
    have c6b0 := eq_true c6
    have c6b1 : decide ((a1.size : Int) ≤ (a0.size : Int)) = true := decide_eq_true c6
    clear c6
    simp only [Option.some.injEq, Prod.mk.injEq] at H
    obtain ⟨rfl, rfl⟩ := H
    go_enter Tryd.func187, Tryd.ntmps187
    go_wp2_with (first | ((with_reducible refine zq (f := 217) rfl ?_); refine zz (some 8) rfl rfl Tryd.func217 (by kernel_rfl) rfl #[.string a0, .string a1] rfl (by (try simp only [List.map_toArray, List.map_cons, List.map_nil]); first | done | rfl | (simp only [List.length_drop, List.length_take]; rfl)) ?_; (with_reducible refine (stringslite_HasPrefix.calls a0 a1 true _ A3.out).mono ?_); rintro e w' ⟨rfl, ⟨nd, rfl⟩⟩; refine ⟨_, rfl, ?_⟩))
    go_ret2
    exact ⟨by first | rfl | (simp; done) | (simp [*]; done), by repeat (first | exact Drawn0.refl _ | apply Drawn0.step)⟩
   ·rw [if_neg c6] at H
    exact absurd H (by simp)
  ·rw [if_neg c5] at H
   exact absurd H (by simp)
 ·replace c4 := Bool.eq_false_iff.mpr c4
  subst c4
  have H1 : (some (a0, false)) = some (r1, r2) := by rw [if_neg (show ¬ (false = true) by decide)] at H; exact H
  clear H
  have H := H1
  clear H1
  simp only [Option.some.injEq, Prod.mk.injEq] at H
  obtain ⟨rfl, rfl⟩ := H
  go_enter Tryd.func187, Tryd.ntmps187
  go_wp2_with (first | ((with_reducible refine zq (f := 217) rfl ?_); refine zz (some 8) rfl rfl Tryd.func217 (by kernel_rfl) rfl #[.string a0, .string a1] rfl (by (try simp only [List.map_toArray, List.map_cons, List.map_nil]); first | done | rfl | (simp only [List.length_drop, List.length_take]; rfl)) ?_; (with_reducible refine (stringslite_HasPrefix.calls a0 a1 false _ A3.out).mono ?_); rintro e w' ⟨rfl, ⟨nd, rfl⟩⟩; refine ⟨_, rfl, ?_⟩))
  go_ret2
  exact ⟨by first | rfl | (simp; done) | (simp [*]; done), by repeat (first | exact Drawn0.refl _ | apply Drawn0.step)⟩

def strings_CutPrefix.f (a0 : ByteArray) (a1 : ByteArray) : Option (ByteArray × Bool) := (stringslite_CutPrefix.f a0 a1).bind fun bt174 => (some (bt174.1, bt174.2))
set_option maxHeartbeats 8000000 in
set_option maxRecDepth 100000 in
theorem strings_CutPrefix.calls (a0 : ByteArray) (a1 : ByteArray) (r1 : ByteArray) (r2 : Bool) (w : World) (h : strings_CutPrefix.f a0 a1 = some (r1, r2)) :
  Calls Tryd.prog 156 #[.string a0, .string a1] w fun e w' => e = .returned (.tuple #[.string r1, .bool r2]) ∧ Drawn0 w w' := by
 have H : ((stringslite_CutPrefix.f a0 a1).bind fun bt174 => (some (bt174.1, bt174.2))) = some (r1, r2) := h
 clear h
 replace H := Option.bind_eq_some_iff.mp H
 obtain ⟨⟨t174, t175⟩, A30, H⟩ := H
 replace H : (some (t174, t175)) = some (r1, r2) := H
 have A3 := Aside0.mk A30
 clear A30
 simp only [Option.some.injEq, Prod.mk.injEq] at H
 obtain ⟨rfl, rfl⟩ := H
 go_enter Tryd.func156, Tryd.ntmps156
 go_wp2_with (first | ((with_reducible refine zq (f := 187) rfl ?_); refine zz (some 8) rfl rfl Tryd.func187 (by kernel_rfl) rfl #[.string a0, .string a1] rfl (by (try simp only [List.map_toArray, List.map_cons, List.map_nil]); first | done | rfl | (simp only [List.length_drop, List.length_take]; rfl)) ?_; (with_reducible refine (stringslite_CutPrefix.calls a0 a1 t174 t175 _ A3.out).mono ?_); rintro e w' ⟨rfl, ⟨nd, rfl⟩⟩; refine ⟨_, rfl, ?_⟩))
 go_ret2
 exact ⟨by first | rfl | (simp; done) | (simp [*]; done), by repeat (first | exact Drawn0.refl _ | apply Drawn0.step)⟩

def impl_validName.l0 : Nat → ByteArray → Int → Int → Option (Bool)
 | 0, _, _, _ => none
 | k + 1, x0, x5, x6 => if x6 < x5 then (if 0 ≤ x6 then (if x6 < (x0.size : Int) then (if (bt x0 x6) < 97 then (if (bt x0 x6) < 48 then (some false) else (if (bt x0 x6) > 57 then (some false) else (impl_validName.l0 k x0 x5 (wrap64 (x6 + 1))))) else (if (bt x0 x6) > 122 then (if (bt x0 x6) < 48 then (some false) else (if (bt x0 x6) > 57 then (some false) else (impl_validName.l0 k x0 x5 (wrap64 (x6 + 1))))) else (impl_validName.l0 k x0 x5 (wrap64 (x6 + 1))))) else (none)) else (none)) else (if (x0.size : Int) ≥ 1 then (some (decide ((x0.size : Int) ≤ 16))) else (some false))
def impl_validName.f (k : Nat) (a0 : ByteArray) : Option (Bool) := impl_validName.l0 k a0 (a0.size : Int) 0
theorem impl_validName.mono_l : ∀ k, (∀ y0 y1 y2, LeO (impl_validName.l0 k y0 y1 y2) (impl_validName.l0 (k + 1) y0 y1 y2))
 | 0 => fun _ _ _ r h => by simp [impl_validName.l0] at h
 | k + 1 => by
  have ih0 := impl_validName.mono_l k
  ·intro y0 y1 y2
   unfold impl_validName.l0
   repeat' first
   | (with_reducible exact ih0 _ _ _)
   | (with_reducible exact LeO.refl _)
   | (with_reducible exact LeO.none _)
   | (with_reducible refine LeO.ite ?_ ?_)
   | (with_reducible refine LeO.bind ?_ (fun _ => ?_))
   | exact ih0 _ _ _
   | exact LeO.none _
   | refine LeO.ite ?_ ?_
   | refine LeO.bind ?_ (fun _ => ?_)
theorem impl_validName.mono : ∀ a0 k, LeO (impl_validName.f k a0) (impl_validName.f (k + 1) a0) := by
 intro a0 k
 have ih0 := impl_validName.mono_l k
 unfold impl_validName.f
 repeat' first
   | (with_reducible exact ih0 _ _ _)
   | (with_reducible exact LeO.refl _)
   | (with_reducible exact LeO.none _)
   | (with_reducible refine LeO.ite ?_ ?_)
   | (with_reducible refine LeO.bind ?_ (fun _ => ?_))
   | exact ih0 _ _ _
   | exact LeO.none _
   | refine LeO.ite ?_ ?_
   | refine LeO.bind ?_ (fun _ => ?_)
set_option maxHeartbeats 8000000 in
set_option maxRecDepth 100000 in
theorem impl_validName.calls (k : Nat) (a0 : ByteArray) (r : Bool) (w : World) (h : impl_validName.f k a0 = some r) :
  Calls Tryd.prog 157 #[.string a0] w fun e w' => e = .returned (.bool r) ∧ Drawn0 w w' := by
 have H : (impl_validName.l0 k a0 (a0.size : Int) 0) = some r := h
 clear h
 have H' := Aside0.mk H
 clear H
 go_enter Tryd.func157, Tryd.ntmps157
 go_wp2
 go_loopg [6] k (fun kq v6 w' => ∃ (x6_1 : Int), v6 = .int .i64 x6_1 ∧ Aside0 (impl_validName.l0 kq a0 (a0.size : Int) x6_1 = some r) ∧ Aside0 (kq ≤ k) ∧ Drawn0 w w')
 case atStart => exact ⟨(0), (by first | rfl | (simp; done) | (simp [*]; done)), H', ⟨Nat.le_refl _⟩, by repeat (first | exact Drawn0.refl _ | apply Drawn0.step)⟩
 case round =>
  clear H'
  try clear c1
  obtain ⟨x6_1, rfl, HA, HK1, ⟨m1, rfl⟩⟩ := hrel
  cases gk with
  | zero => exact absurd HA.out (by simp [impl_validName.l0])
  | succ k1 =>
   have H := HA.out
   clear HA
   simp only [impl_validName.l0] at H
   by_cases c2 : x6_1 < (a0.size : Int)
   ·rw [if_pos c2] at H
    have c2b0 : decide (x6_1 < (a0.size : Int)) = true := decide_eq_true c2
    clear c2
    by_cases c3 : 0 ≤ x6_1
    ·rw [if_pos c3] at H
     have c3b0 : decide (0 ≤ x6_1) = true := decide_eq_true c3
     clear c3
     by_cases c4 : x6_1 < (a0.size : Int)
     ·rw [if_pos c4] at H
      have c4b0 : decide (x6_1 < (a0.size : Int)) = true := decide_eq_true c4
      clear c4
      by_cases c6 : (bt a0 x6_1) < 97
      ·rw [if_pos c6] at H
       have c6b0 : decide ((bt a0 x6_1) < 97) = true := decide_eq_true c6
       clear c6
       by_cases c8 : (bt a0 x6_1) < 48
       ·rw [if_pos c8] at H
        have c8b0 : decide ((bt a0 x6_1) < 48) = true := decide_eq_true c8
        clear c8
        obtain rfl := Option.some.inj H
        have p5 : 0 ≤ (x6_1 : Int) := of_decide_eq_true (by first | (with_reducible assumption) | assumption)
        have q5 : x6_1 < (a0.size : Int) := of_decide_eq_true (by first | (with_reducible assumption) | assumption)
        have hx5 := bt_at a0 x6_1
        replace p5 := eq_true p5
        replace q5 := eq_true q5
        have p7 : 0 ≤ (x6_1 : Int) := of_decide_eq_true (by first | (with_reducible assumption) | assumption)
        have q7 : x6_1 < (a0.size : Int) := of_decide_eq_true (by first | (with_reducible assumption) | assumption)
        have hx7 := bt_at a0 x6_1
        replace p7 := eq_true p7
        replace q7 := eq_true q7
        go_wp2
        go_ret
        exact ⟨by first | rfl | (simp; done) | (simp [*]; done), by repeat (first | exact Drawn0.refl _ | apply Drawn0.step)⟩
       ·rw [if_neg c8] at H
        have c8b0 : decide ((bt a0 x6_1) < 48) = false := decide_eq_false c8
        clear c8
        by_cases c10 : (bt a0 x6_1) > 57
        ·rw [if_pos c10] at H
         have c10b0 : decide (57 < (bt a0 x6_1)) = true := decide_eq_true c10
         clear c10
         obtain rfl := Option.some.inj H
         have p5 : 0 ≤ (x6_1 : Int) := of_decide_eq_true (by first | (with_reducible assumption) | assumption)
         have q5 : x6_1 < (a0.size : Int) := of_decide_eq_true (by first | (with_reducible assumption) | assumption)
         have hx5 := bt_at a0 x6_1
         replace p5 := eq_true p5
         replace q5 := eq_true q5
         have p7 : 0 ≤ (x6_1 : Int) := of_decide_eq_true (by first | (with_reducible assumption) | assumption)
         have q7 : x6_1 < (a0.size : Int) := of_decide_eq_true (by first | (with_reducible assumption) | assumption)
         have hx7 := bt_at a0 x6_1
         replace p7 := eq_true p7
         replace q7 := eq_true q7
         have p9 : 0 ≤ (x6_1 : Int) := of_decide_eq_true (by first | (with_reducible assumption) | assumption)
         have q9 : x6_1 < (a0.size : Int) := of_decide_eq_true (by first | (with_reducible assumption) | assumption)
         have hx9 := bt_at a0 x6_1
         replace p9 := eq_true p9
         replace q9 := eq_true q9
         go_wp2
         go_ret
         exact ⟨by first | rfl | (simp; done) | (simp [*]; done), by repeat (first | exact Drawn0.refl _ | apply Drawn0.step)⟩
        ·rw [if_neg c10] at H
         have c10b0 : decide (57 < (bt a0 x6_1)) = false := decide_eq_false c10
         clear c10
         have H' := Aside0.mk H
         clear H
         have p5 : 0 ≤ (x6_1 : Int) := of_decide_eq_true (by first | (with_reducible assumption) | assumption)
         have q5 : x6_1 < (a0.size : Int) := of_decide_eq_true (by first | (with_reducible assumption) | assumption)
         have hx5 := bt_at a0 x6_1
         replace p5 := eq_true p5
         replace q5 := eq_true q5
         have p7 : 0 ≤ (x6_1 : Int) := of_decide_eq_true (by first | (with_reducible assumption) | assumption)
         have q7 : x6_1 < (a0.size : Int) := of_decide_eq_true (by first | (with_reducible assumption) | assumption)
         have hx7 := bt_at a0 x6_1
         replace p7 := eq_true p7
         replace q7 := eq_true q7
         have p9 : 0 ≤ (x6_1 : Int) := of_decide_eq_true (by first | (with_reducible assumption) | assumption)
         have q9 : x6_1 < (a0.size : Int) := of_decide_eq_true (by first | (with_reducible assumption) | assumption)
         have hx9 := bt_at a0 x6_1
         replace p9 := eq_true p9
         replace q9 := eq_true q9
         go_wp2
         go_roundg k1
         case measure => have := HK1.out; omega
         case rel => exact ⟨(wrap64 (x6_1 + 1)), (by first | rfl | (simp; done) | (simp [*]; done)), H', ⟨by have := HK1.out; omega⟩, by repeat (first | exact Drawn0.refl _ | apply Drawn0.step)⟩
      ·rw [if_neg c6] at H
       have c6b0 : decide ((bt a0 x6_1) < 97) = false := decide_eq_false c6
       clear c6
       by_cases c12 : (bt a0 x6_1) > 122
       ·rw [if_pos c12] at H
        have c12b0 : decide (122 < (bt a0 x6_1)) = true := decide_eq_true c12
        clear c12
        by_cases c14 : (bt a0 x6_1) < 48
        ·rw [if_pos c14] at H
         have c14b0 : decide ((bt a0 x6_1) < 48) = true := decide_eq_true c14
         clear c14
         obtain rfl := Option.some.inj H
         have p5 : 0 ≤ (x6_1 : Int) := of_decide_eq_true (by first | (with_reducible assumption) | assumption)
         have q5 : x6_1 < (a0.size : Int) := of_decide_eq_true (by first | (with_reducible assumption) | assumption)
         have hx5 := bt_at a0 x6_1
         replace p5 := eq_true p5
         replace q5 := eq_true q5
         have p11 : 0 ≤ (x6_1 : Int) := of_decide_eq_true (by first | (with_reducible assumption) | assumption)
         have q11 : x6_1 < (a0.size : Int) := of_decide_eq_true (by first | (with_reducible assumption) | assumption)
         have hx11 := bt_at a0 x6_1
         replace p11 := eq_true p11
         replace q11 := eq_true q11
         have p13 : 0 ≤ (x6_1 : Int) := of_decide_eq_true (by first | (with_reducible assumption) | assumption)
         have q13 : x6_1 < (a0.size : Int) := of_decide_eq_true (by first | (with_reducible assumption) | assumption)
         have hx13 := bt_at a0 x6_1
         replace p13 := eq_true p13
         replace q13 := eq_true q13
         go_wp2
         go_ret
         exact ⟨by first | rfl | (simp; done) | (simp [*]; done), by repeat (first | exact Drawn0.refl _ | apply Drawn0.step)⟩
        ·rw [if_neg c14] at H
         have c14b0 : decide ((bt a0 x6_1) < 48) = false := decide_eq_false c14
         clear c14
         by_cases c16 : (bt a0 x6_1) > 57
         ·rw [if_pos c16] at H
          have c16b0 : decide (57 < (bt a0 x6_1)) = true := decide_eq_true c16
          clear c16
          obtain rfl := Option.some.inj H
          have p5 : 0 ≤ (x6_1 : Int) := of_decide_eq_true (by first | (with_reducible assumption) | assumption)
          have q5 : x6_1 < (a0.size : Int) := of_decide_eq_true (by first | (with_reducible assumption) | assumption)
          have hx5 := bt_at a0 x6_1
          replace p5 := eq_true p5
          replace q5 := eq_true q5
          have p11 : 0 ≤ (x6_1 : Int) := of_decide_eq_true (by first | (with_reducible assumption) | assumption)
          have q11 : x6_1 < (a0.size : Int) := of_decide_eq_true (by first | (with_reducible assumption) | assumption)
          have hx11 := bt_at a0 x6_1
          replace p11 := eq_true p11
          replace q11 := eq_true q11
          have p13 : 0 ≤ (x6_1 : Int) := of_decide_eq_true (by first | (with_reducible assumption) | assumption)
          have q13 : x6_1 < (a0.size : Int) := of_decide_eq_true (by first | (with_reducible assumption) | assumption)
          have hx13 := bt_at a0 x6_1
          replace p13 := eq_true p13
          replace q13 := eq_true q13
          have p15 : 0 ≤ (x6_1 : Int) := of_decide_eq_true (by first | (with_reducible assumption) | assumption)
          have q15 : x6_1 < (a0.size : Int) := of_decide_eq_true (by first | (with_reducible assumption) | assumption)
          have hx15 := bt_at a0 x6_1
          replace p15 := eq_true p15
          replace q15 := eq_true q15
          go_wp2
          go_ret
          exact ⟨by first | rfl | (simp; done) | (simp [*]; done), by repeat (first | exact Drawn0.refl _ | apply Drawn0.step)⟩
         ·rw [if_neg c16] at H
          have c16b0 : decide (57 < (bt a0 x6_1)) = false := decide_eq_false c16
          clear c16
          have H' := Aside0.mk H
          clear H
          have p5 : 0 ≤ (x6_1 : Int) := of_decide_eq_true (by first | (with_reducible assumption) | assumption)
          have q5 : x6_1 < (a0.size : Int) := of_decide_eq_true (by first | (with_reducible assumption) | assumption)
          have hx5 := bt_at a0 x6_1
          replace p5 := eq_true p5
          replace q5 := eq_true q5
          have p11 : 0 ≤ (x6_1 : Int) := of_decide_eq_true (by first | (with_reducible assumption) | assumption)
          have q11 : x6_1 < (a0.size : Int) := of_decide_eq_true (by first | (with_reducible assumption) | assumption)
          have hx11 := bt_at a0 x6_1
          replace p11 := eq_true p11
          replace q11 := eq_true q11
          have p13 : 0 ≤ (x6_1 : Int) := of_decide_eq_true (by first | (with_reducible assumption) | assumption)
          have q13 : x6_1 < (a0.size : Int) := of_decide_eq_true (by first | (with_reducible assumption) | assumption)
          have hx13 := bt_at a0 x6_1
          replace p13 := eq_true p13
          replace q13 := eq_true q13
          have p15 : 0 ≤ (x6_1 : Int) := of_decide_eq_true (by first | (with_reducible assumption) | assumption)
          have q15 : x6_1 < (a0.size : Int) := of_decide_eq_true (by first | (with_reducible assumption) | assumption)
          have hx15 := bt_at a0 x6_1
          replace p15 := eq_true p15
          replace q15 := eq_true q15
          go_wp2
          go_roundg k1
          case measure => have := HK1.out; omega
          case rel => exact ⟨(wrap64 (x6_1 + 1)), (by first | rfl | (simp; done) | (simp [*]; done)), H', ⟨by have := HK1.out; omega⟩, by repeat (first | exact Drawn0.refl _ | apply Drawn0.step)⟩
       ·rw [if_neg c12] at H
        have c12b0 : decide (122 < (bt a0 x6_1)) = false := decide_eq_false c12
        clear c12
        have H' := Aside0.mk H
        clear H
        have p5 : 0 ≤ (x6_1 : Int) := of_decide_eq_true (by first | (with_reducible assumption) | assumption)
        have q5 : x6_1 < (a0.size : Int) := of_decide_eq_true (by first | (with_reducible assumption) | assumption)
        have hx5 := bt_at a0 x6_1
        replace p5 := eq_true p5
        replace q5 := eq_true q5
        have p11 : 0 ≤ (x6_1 : Int) := of_decide_eq_true (by first | (with_reducible assumption) | assumption)
        have q11 : x6_1 < (a0.size : Int) := of_decide_eq_true (by first | (with_reducible assumption) | assumption)
        have hx11 := bt_at a0 x6_1
        replace p11 := eq_true p11
        replace q11 := eq_true q11
        go_wp2
        go_roundg k1
        case measure => have := HK1.out; omega
        case rel => exact ⟨(wrap64 (x6_1 + 1)), (by first | rfl | (simp; done) | (simp [*]; done)), H', ⟨by have := HK1.out; omega⟩, by repeat (first | exact Drawn0.refl _ | apply Drawn0.step)⟩
     ·rw [if_neg c4] at H
      exact absurd H (by simp)
    ·rw [if_neg c3] at H
     exact absurd H (by simp)
   ·rw [if_neg c2] at H
    have c2b0 : decide (x6_1 < (a0.size : Int)) = false := decide_eq_false c2
    clear c2
    by_cases c17 : (a0.size : Int) ≥ 1
    ·rw [if_pos c17] at H
     have c17b0 : decide (1 ≤ (a0.size : Int)) = true := decide_eq_true c17
     have c17b1 : decide (1 ≤ a0.size) = true := decide_eq_true (by omega)
     clear c17
     obtain rfl := Option.some.inj H
     go_wp2
     go_ret
     exact ⟨by first | rfl | (simp; done) | (simp [*]; done), by repeat (first | exact Drawn0.refl _ | apply Drawn0.step)⟩
    ·rw [if_neg c17] at H
     have c17b0 : decide (1 ≤ (a0.size : Int)) = false := decide_eq_false c17
     have c17b1 : decide (1 ≤ a0.size) = false := decide_eq_false (by omega)
     clear c17
     obtain rfl := Option.some.inj H
     go_wp2
     go_ret
     exact ⟨by first | rfl | (simp; done) | (simp [*]; done), by repeat (first | exact Drawn0.refl _ | apply Drawn0.step)⟩

end Go.Proofs.YtjoafknckmoojaaDoor.GFnExactDecodeTree
