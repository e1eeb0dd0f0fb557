/- Written by give.py, a program of this session, that runs the kit's print and lays contracts proved by hand beside it. -/
import Derived.Test.YtjoafknckmoojaaDoorGFnExactFormatDiskx0
import Derived.Test.YtjoafknckmoojaaDoorGFnExactFormatDiskx2
import Derived.Test.YtjoafknckmoojaaDoorGFnExactFormatDiskx3
namespace Go.Proofs.YtjoafknckmoojaaDoor.GFnExactFormatDisk
open Go.RowKit Go.Proofs.YtjoafknckmoojaaDoorW.PrintWords Go.Proofs.YtjoafknckmoojaaDoorW.PrintLast Go.Proofs.YtjoafknckmoojaaDoorW.PrintMore
attribute [local go_sem] max2_int min2_int max_two min_two max_three min_three max_four min_four Go.Proofs.YtjoafknckmoojaaDoorH.str_leq Go.Proofs.YtjoafknckmoojaaDoorH.str_geq Go.Proofs.YtjoafknckmoojaaDoorH.str_gtr   -- for this text's walks alone
set_option linter.unusedVariables false
set_option linter.unusedSimpArgs false

def spec_ValidTree.f (k : Nat) (l0_0 : List (S92)) : Option (Bool) := if (l0_0.length : Int) ≤ 1000 then ((spec_l3Sorted.f k l0_0).bind fun t132 => (some t132)) else (some false)
theorem spec_ValidTree.mono : ∀ a0 k, LeO (spec_ValidTree.f k a0) (spec_ValidTree.f (k + 1) a0) := by
 intro a0 k
 unfold spec_ValidTree.f
 repeat' first
   | (with_reducible exact spec_l3Sorted.mono _ _)
   | (with_reducible exact LeO.refl _)
   | (with_reducible exact LeO.none _)
   | (with_reducible refine LeO.ite ?_ ?_)
   | (with_reducible refine LeO.bind ?_ (fun _ => ?_))
   | exact spec_l3Sorted.mono _ _
   | exact LeO.none _
   | refine LeO.ite ?_ ?_
   | refine LeO.bind ?_ (fun _ => ?_)
set_option maxHeartbeats 8000000 in
set_option maxRecDepth 100000 in
theorem spec_ValidTree.calls (k : Nat) (A0_0 : Option Addr) (c0_0 : Nat) (l0_0 : List (S92)) (r : Bool) (w : World) (hr0_0 : Kd.C k92 w A0_0 l0_0.length l0_0) (hc0_0 : l0_0.length ≤ c0_0) (h : spec_ValidTree.f k l0_0 = some r) :
  Calls Tryd.prog 41 #[.agg #[.slice A0_0 l0_0.length c0_0]] w fun e w' => e = .returned (.bool r) ∧ Below w.heap.size w w' := by
 have hu25 := Tryd.underlying25
 have HR0_0 := Aside0.mk hr0_0
 have HC0_0 := Aside0.mk hc0_0
 clear hr0_0 hc0_0
 have HB := Aside0.mk (Below.refl w.heap.size w)
 have H : (if (l0_0.length : Int) ≤ 1000 then ((spec_l3Sorted.f k l0_0).bind fun t132 => (some t132)) else (some false)) = some r := h
 clear h
 by_cases c2 : (l0_0.length : Int) ≤ 1000
 ·rw [if_pos c2] at H
  have c2b0 : decide ((l0_0.length : Int) ≤ 1000) = true := decide_eq_true c2
  have c2b1 : decide (l0_0.length ≤ 1000) = true := decide_eq_true (by omega)
  clear c2
  replace H := Option.bind_eq_some_iff.mp H
  obtain ⟨t132, A30, H⟩ := H
  replace H : (some t132) = some r := H
  have A3 := Aside0.mk A30
  clear A30
  obtain rfl := Option.some.inj H
  go_enter Tryd.func41, Tryd.ntmps41
  go_wp2_with (first | ((with_reducible refine zr (N := 1) rfl ?_); refine zu ?hg (N := 1) ?hd (cs := #[.slice A0_0 l0_0.length c0_0]) (t := 25) ?hr ?_; (case hd => rfl); (case hg => rfl); (case hr => first | (go_simp; done) | (go_simp; rfl)); intro zA hg w4 hbox hb; have n0_ := Aside0.mk (zm (by repeat (first | (with_reducible first | exact HB.out | apply zd | apply zb | apply zc) | exact HB.out)) hb); have n1_ := Aside0.mk (hbox); have n2_ := Aside0.mk ((by rw [hg]; exact (zk (by repeat (first | (with_reducible first | exact HB.out | apply zd | apply zb | apply zc) | exact HB.out))) : w.heap.size ≤ zA)); have n3_ := Aside0.mk ((by rw [hg]; exact (zk (by repeat (first | (with_reducible first | exact HB.out | apply zd | apply zb | apply zc) | exact HB.out))) : w.heap.size ≤ zA)); clear HB; have HB := n0_; have zB := n1_; have GW131 := n2_; have zC := n3_; clear n0_ n1_ n2_ n3_; clear hb hbox hg; have zD : w4.cell? ⟨zA, 0, none⟩ = some (.slice A0_0 l0_0.length c0_0) := (ze zB.out 0).trans rfl; have zE := zg zB.out 0) | (go_at_call 105; (with_reducible refine (spec_l3Sorted.calls k _ _ l0_0 t132 _ ?side1 ?side2 A3.out).mono ?_); (case side1 => repeat (first | exact (Kd.C_below HR0_0.out HB.out) | (with_reducible refine Kd.C_alloc ?_ _) | (with_reducible refine Kd.C_drewN ?_ _) | (with_reducible refine Kd.C_drew ?_))); (case side2 => exact HC0_0.out); rintro e w6 ⟨rfl, hb⟩; have n0_ := Aside0.mk (zo (g := zA) (o := .cells #[.slice A0_0 l0_0.length c0_0] 25 (0, 0)) (by (with_reducible repeat (first | refine zj ?_ _ | refine zl ?_ | refine zi ?_ _)); exact zB.out) hb); have n1_ := Aside0.mk (zm (by repeat (first | (with_reducible first | exact HB.out | apply zd | apply zb | apply zc | refine zh ?_ zC.out) | exact HB.out)) hb); clear zB; clear HB; have zB := n0_; have HB := n1_; clear n0_ n1_; (try clear hb); (try clear hb2); (try clear hk); (try clear hi)))
  go_ret
  exact ⟨by first | rfl | (simp [errW_none, errW_some] <;> rfl) | (simp [*, errW_none, errW_some] <;> rfl), by repeat (first | (with_reducible first | exact HB.out | apply zd | apply zb | apply zc | refine zh ?_ zC.out) | exact HB.out)⟩
 ·rw [if_neg c2] at H
  have c2b0 : decide ((l0_0.length : Int) ≤ 1000) = false := decide_eq_false c2
  have c2b1 : decide (l0_0.length ≤ 1000) = false := decide_eq_false (by omega)
  clear c2
  obtain rfl := Option.some.inj H
  go_enter Tryd.func41, Tryd.ntmps41
  go_wp2_with (first | ((with_reducible refine zr (N := 1) rfl ?_); refine zu ?hg (N := 1) ?hd (cs := #[.slice A0_0 l0_0.length c0_0]) (t := 25) ?hr ?_; (case hd => rfl); (case hg => rfl); (case hr => first | (go_simp; done) | (go_simp; rfl)); intro zA hg w7 hbox hb; have n0_ := Aside0.mk (zm (by repeat (first | (with_reducible first | exact HB.out | apply zd | apply zb | apply zc) | exact HB.out)) hb); have n1_ := Aside0.mk (hbox); have n2_ := Aside0.mk ((by rw [hg]; exact (zk (by repeat (first | (with_reducible first | exact HB.out | apply zd | apply zb | apply zc) | exact HB.out))) : w.heap.size ≤ zA)); have n3_ := Aside0.mk ((by rw [hg]; exact (zk (by repeat (first | (with_reducible first | exact HB.out | apply zd | apply zb | apply zc) | exact HB.out))) : w.heap.size ≤ zA)); clear HB; have HB := n0_; have zB := n1_; have GW131 := n2_; have zC := n3_; clear n0_ n1_ n2_ n3_; clear hb hbox hg; have zF : w7.cell? ⟨zA, 0, none⟩ = some (.slice A0_0 l0_0.length c0_0) := (ze zB.out 0).trans rfl; have zG := zg zB.out 0))
  go_ret
  exact ⟨by first | rfl | (simp [errW_none, errW_some] <;> rfl) | (simp [*, errW_none, errW_some] <;> rfl), by repeat (first | (with_reducible first | exact HB.out | apply zd | apply zb | apply zc | refine zh ?_ zC.out) | exact HB.out)⟩

def spec_l4Big.f : Nat → Int → Int → Option (List Int)
 | 0, _, _ => none
 | k + 1, a0, a1 => if a1 = 0 then (some (([] : List Int))) else ((spec_l4Big.f k (wrap64 (Int.tdiv a0 256)) (wrap64 (a1 - 1))).bind fun t136 => (if t136.length < 140737488355328 then (some (t136 ++ [(Int.tmod a0 256) % 256])) else (none)))
theorem spec_l4Big.mono_l : ∀ k, (∀ y0 y1, LeO (spec_l4Big.f k y0 y1) (spec_l4Big.f (k + 1) y0 y1))
 | 0 => fun _ _ r h => by simp [spec_l4Big.f] at h
 | k + 1 => by
  have ih0 := spec_l4Big.mono_l k
  ·intro y0 y1
   unfold spec_l4Big.f
   repeat' first
   | (with_reducible exact ih0 _ _)
   | (with_reducible exact LeO.refl _)
   | (with_reducible exact LeO.none _)
   | (with_reducible refine LeO.ite ?_ ?_)
   | (with_reducible refine LeO.bind ?_ (fun _ => ?_))
   | exact ih0 _ _
   | exact LeO.none _
   | refine LeO.ite ?_ ?_
   | refine LeO.bind ?_ (fun _ => ?_)
theorem spec_l4Big.mono : ∀ a0 a1 k, LeO (spec_l4Big.f k a0 a1) (spec_l4Big.f (k + 1) a0 a1) := by
 intro a0 a1 k
 have ih0 := spec_l4Big.mono_l k
 exact ih0 a0 a1
set_option maxHeartbeats 8000000 in
set_option maxRecDepth 100000 in
theorem spec_l4Big.calls (k : Nat) : ∀ (a0 : Int) (a1 : Int) (r : List Int) (w : World) (h : spec_l4Big.f k a0 a1 = some r),
  Calls Tryd.prog 141 #[.int .i64 a0, .int .i64 a1] w fun e w' => ∃ v0_ : Value, e = .returned (v0_) ∧ Kd.R (Kd.int .u8) 5 w' w.heap.size (fun _ => True) v0_ r ∧ Below w.heap.size w w' := by
 induction k using Nat.strongRecOn with
 | _ k ih =>
 intro a0 a1 r w h
 cases k with
 | zero => exact absurd h (by simp [spec_l4Big.f])
 | succ k =>
 simp only [spec_l4Big.f] at h
 have HB := Aside0.mk (Below.refl w.heap.size w)
 have H : (if a1 = 0 then (some (([] : List Int))) else ((spec_l4Big.f k (wrap64 (Int.tdiv a0 256)) (wrap64 (a1 - 1))).bind fun t136 => (if t136.length < 140737488355328 then (some (t136 ++ [(Int.tmod a0 256) % 256])) else (none)))) = some r := h
 clear h
 by_cases c3 : a1 = 0
 ·rw [if_pos c3] at H
  have c3b0 : (a1 == 0) = true := beq_iff_eq.mpr c3
  have c3b1 : (a1 != 0) = false := bne_eq_false_iff_eq.mpr c3
  clear c3
  obtain ⟨y133, hy133⟩ : ∃ y_ : List Int, y_ = (([] : List Int)) := ⟨_, rfl⟩
  replace H : (some y133) = some r := by first | (rw [hy133]; with_reducible exact H) | (have H2_ := (Option.bind_some _ _).symm.trans H; rw [hy133]; with_reducible exact H2_) | (have H2_ := (Option.bind_some _ _).symm.trans H; with_reducible exact H2_) | with_reducible exact H | (rw [hy133]; exact H) | exact H
  have Ny133 := Aside0.mk hy133
  clear hy133
  obtain rfl := Option.some.inj H
  go_enter Tryd.func141, Tryd.ntmps141
  go_wp2_with (first | ((with_reducible refine zr (N := 7) rfl ?_); refine Kd.R_lit (Kd.int .u8) _ 5 ?hg (N := 7) ?hd (xs := ([] : List Int)) (inner := []) (ok := fun _ => True) (okp := fun _ => True) ?hr ?hp (fun _ hk => hk) trivial (Below.refl _ _) (Nat.le_refl _) (by simp) ?_; (case hd => rfl); (case hg => rfl); (case hr => first | (go_simp; done) | (go_simp; rfl)); (case hp => exact (Reps.none _ _)); intro v134 w4 zA hb hg_ hnew_; clear hg_ hnew_; (first | rw [← Ny133.out] at zA | (simp only [Int.reduceToNat] at zA; rw [← Ny133.out] at zA)); have n0_ := Aside0.mk (Kd.R_lower zA (zk (by repeat (first | (with_reducible first | exact HB.out | apply zd | apply zb | apply zc) | exact HB.out)))); have n1_ := Aside0.mk (zm (by repeat (first | (with_reducible first | exact HB.out | apply zd | apply zb | apply zc) | exact HB.out)) hb); clear HB; have zC := n0_; have HB := n1_; clear n0_ n1_; clear hb zA))
  go_ret
  exact ⟨_, by first | rfl | (simp [errW_none, errW_some] <;> rfl) | (simp [*, errW_none, errW_some] <;> rfl), by (with_reducible repeat (first | apply Kd.R_alloc | apply Kd.R_drewN | apply Kd.R_drew)); exact zC.out, by repeat (first | (with_reducible first | exact HB.out | apply zd | apply zb | apply zc) | exact HB.out)⟩
 ·rw [if_neg c3] at H
  have c3b0 : (a1 == 0) = false := beq_eq_false_iff_ne.mpr c3
  have c3b1 : (a1 != 0) = true := bne_iff_ne.mpr c3
  replace H := Option.bind_eq_some_iff.mp H
  obtain ⟨t136, A60, H⟩ := H
  replace H : (if t136.length < 140737488355328 then (some (t136 ++ [(Int.tmod a0 256) % 256])) else (none)) = some r := H
  have A6 := Aside0.mk A60
  clear A60
  by_cases c7 : t136.length < 140737488355328
  ·rw [if_pos c7] at H
   have LMc7 := Aside0.mk c7
   clear c7
   obtain ⟨y139, hy139⟩ : ∃ y_ : List Int, y_ = (t136 ++ [(Int.tmod a0 256) % 256]) := ⟨_, rfl⟩
   replace H : (some y139) = some r := by first | (rw [hy139]; with_reducible exact H) | (have H2_ := (Option.bind_some _ _).symm.trans H; rw [hy139]; with_reducible exact H2_) | (have H2_ := (Option.bind_some _ _).symm.trans H; with_reducible exact H2_) | with_reducible exact H | (rw [hy139]; exact H) | exact H
   have Ny139 := Aside0.mk hy139
   clear hy139
   obtain rfl := Option.some.inj H
   go_enter Tryd.func141, Tryd.ntmps141
   go_wp2_with (first | ((with_reducible refine zn (f := 141) rfl ?_); refine zx (some 12) rfl rfl Tryd.func141 (by kernel_rfl) rfl #[.int .i64 (wrap64 (Int.tdiv a0 256)), .int .i64 (wrap64 (a1 - 1))] rfl (by (try simp only [List.map_toArray, List.map_cons, List.map_nil]); first | done | rfl | (simp only [List.length_drop, List.length_take]; rfl)) ?_; (with_reducible refine (ih k (by omega) (wrap64 (Int.tdiv a0 256)) (wrap64 (a1 - 1)) t136 _ A6.out).mono ?_); rintro e w8 ⟨v137, rfl, zE, hb⟩; refine ⟨_, rfl, ?_⟩; have n0_ := Aside0.mk (Kd.R_lower zE (zk (by repeat (first | (with_reducible first | exact HB.out | apply zd | apply zb | apply zc) | exact HB.out)))); have n1_ := Aside0.mk (zm (by repeat (first | (with_reducible first | exact HB.out | apply zd | apply zb | apply zc) | exact HB.out)) hb); clear HB; have zB := n0_; have HB := n1_; clear n0_ n1_; (try clear hb); (try clear hb2); (try clear hk); (try clear hi); (try clear zE)) | ((with_reducible refine gate_builtin (b := .append) (xs := #[.tmp 12, .tmp 16]) rfl ?_); at_builtin; refine Kd.R_append (Kd.int .u8) (w0 := w) w.heap.size rfl (.tmp 12) (.tmp 16) 22 5 (.int .u8 0) 1 rfl Tryd.underlying22 info5 rfl (by decide) (by omega) v137 t136 ((Int.tmod a0 256) % 256) [.int .u8 ((Int.tmod a0 256) % 256)] (fun _ => True) (fun _ => False) rfl rfl ?aP (fun _ hk => hk.elim) ?aF ?aO ?aB ?aS ?aL ?_; (case aP => exact rfl); (case aB => exact (by repeat (first | (with_reducible first | exact HB.out | apply zd | apply zb | apply zc) | exact HB.out))); (case aF => exact (fun _ _ => trivial)); (case aO => exact (by (with_reducible repeat (first | apply Kd.R_alloc | apply Kd.R_drewN | apply Kd.R_drew)); exact zB.out)); (case aS => exact (zk (by repeat (first | (with_reducible first | exact HB.out | apply zd | apply zb | apply zc) | exact HB.out)))); (case aL => have := LMc7.out; omega); intro v140 w9 ho hb hg hat; rw [← Ny139.out] at ho; have n0_ := Aside0.mk (hb); have n1_ := Aside0.mk (ho); clear HB; clear zB; have HB := n0_; have zD := n1_; clear n0_ n1_; clear ho hb hg hat))
   go_ret
   exact ⟨_, by first | rfl | (simp [errW_none, errW_some] <;> rfl) | (simp [*, errW_none, errW_some] <;> rfl), by (with_reducible repeat (first | apply Kd.R_alloc | apply Kd.R_drewN | apply Kd.R_drew)); exact zD.out, by repeat (first | (with_reducible first | exact HB.out | apply zd | apply zb | apply zc) | exact HB.out)⟩
  ·rw [if_neg c7] at H
   exact absurd H (by simp)

def spec_l4Text.f (a0 : ByteArray) : Option (List Int) := (some (([((a0.size : Int)) % 256] : List Int) : List Int)).bind fun y142 => (if y142.length + a0.size < 140737488355328 then (some (y142 ++ bytesOf a0)) else (none))
set_option maxHeartbeats 8000000 in
set_option maxRecDepth 100000 in
theorem spec_l4Text.calls (a0 : ByteArray) (r : List Int) (w : World) (h : spec_l4Text.f a0 = some r) :
  Calls Tryd.prog 216 #[.string a0] w fun e w' => ∃ v0_ : Value, e = .returned (v0_) ∧ Kd.R (Kd.int .u8) 5 w' w.heap.size (fun _ => True) v0_ r ∧ Below w.heap.size w w' := by
 have HB := Aside0.mk (Below.refl w.heap.size w)
 have H : ((some (([((a0.size : Int)) % 256] : List Int) : List Int)).bind fun y142 => (if y142.length + a0.size < 140737488355328 then (some (y142 ++ bytesOf a0)) else (none))) = some r := h
 clear h
 obtain ⟨y142, hy142⟩ : ∃ y_ : List Int, y_ = (([((a0.size : Int)) % 256] : List Int)) := ⟨_, rfl⟩
 replace H : (if y142.length + a0.size < 140737488355328 then (some (y142 ++ bytesOf a0)) else (none)) = some r := by first | (rw [hy142]; with_reducible exact H) | (have H2_ := (Option.bind_some _ _).symm.trans H; rw [hy142]; with_reducible exact H2_) | (have H2_ := (Option.bind_some _ _).symm.trans H; with_reducible exact H2_) | with_reducible exact H | (rw [hy142]; exact H) | exact H
 have Ny142 := Aside0.mk hy142
 clear hy142
 by_cases c2 : y142.length + a0.size < 140737488355328
 ·rw [if_pos c2] at H
  have LMc2 := Aside0.mk c2
  clear c2
  obtain ⟨y145, hy145⟩ : ∃ y_ : List Int, y_ = (y142 ++ bytesOf a0) := ⟨_, rfl⟩
  replace H : (some y145) = some r := by first | (rw [hy145]; with_reducible exact H) | (have H2_ := (Option.bind_some _ _).symm.trans H; rw [hy145]; with_reducible exact H2_) | (have H2_ := (Option.bind_some _ _).symm.trans H; with_reducible exact H2_) | with_reducible exact H | (rw [hy145]; exact H) | exact H
  have Ny145 := Aside0.mk hy145
  clear hy145
  obtain rfl := Option.some.inj H
  go_enter Tryd.func216, Tryd.ntmps216
  go_wp2_with (first | ((with_reducible refine zr (N := 6) rfl ?_); refine Kd.R_lit (Kd.int .u8) _ 5 ?hg (N := 6) ?hd (xs := ([((a0.size : Int)) % 256] : List Int)) (inner := [.int .u8 (((a0.size : Int)) % 256)]) (ok := fun _ => True) (okp := fun _ => True) ?hr ?hp (fun _ hk => hk) trivial (Below.refl _ _) (Nat.le_refl _) (by simp) ?_; (case hd => rfl); (case hg => rfl); (case hr => first | (go_simp; done) | (go_simp; rfl)); (case hp => exact (Reps.one (show Kd.M (Kd.int .u8) _ _ _ (((a0.size : Int)) % 256) [.int .u8 (((a0.size : Int)) % 256)] from rfl) (Reps.none _ _))); intro v143 w3 zA hb hg_ hnew_; clear hg_ hnew_; (first | rw [← Ny142.out] at zA | (simp only [Int.reduceToNat] at zA; rw [← Ny142.out] at zA)); have n0_ := Aside0.mk (Kd.R_lower zA (zk (by repeat (first | (with_reducible first | exact HB.out | apply zd | apply zb | apply zc) | exact HB.out)))); have n1_ := Aside0.mk (zm (by repeat (first | (with_reducible first | exact HB.out | apply zd | apply zb | apply zc) | exact HB.out)) hb); clear HB; have zB := n0_; have HB := n1_; clear n0_ n1_; clear hb zA) | (refine Go.Proofs.YtjoafknckmoojaaDoorH.append_conv (w0 := w) w.heap.size rfl rfl (.tmp 6) (.tmp 7) 8 22 9 5 rfl rfl rfl Tryd.underlying22 Tryd.underlying9 Tryd.underlying5 info5 v143 y142 a0 (fun _ => True) (fun _ => rfl) rfl (fun _ => rfl) ?aF ?aO ?aB ?aS ?aL ?_; (case aB => exact (by repeat (first | (with_reducible first | exact HB.out | apply zd | apply zb | apply zc) | exact HB.out))); (case aF => exact (fun _ _ => trivial)); (case aO => exact (by (with_reducible repeat (first | apply Kd.R_alloc | apply Kd.R_drewN | apply Kd.R_drew)); exact zB.out)); (case aS => exact (zk (by repeat (first | (with_reducible first | exact HB.out | apply zd | apply zb | apply zc) | exact HB.out)))); (case aL => have := LMc2.out; omega); intro cv_ v146 w5 ho hb hg hat; rw [← Ny145.out] at ho; have n0_ := Aside0.mk (hb); have n1_ := Aside0.mk (ho); clear HB; clear zB; have HB := n0_; have zC := n1_; clear n0_ n1_; clear ho hb hg hat))
  go_ret
  exact ⟨_, by first | rfl | (simp [errW_none, errW_some] <;> rfl) | (simp [*, errW_none, errW_some] <;> rfl), by (with_reducible repeat (first | apply Kd.R_alloc | apply Kd.R_drewN | apply Kd.R_drew)); exact zC.out, by repeat (first | (with_reducible first | exact HB.out | apply zd | apply zb | apply zc) | exact HB.out)⟩
 ·rw [if_neg c2] at H
  exact absurd H (by simp)

def spec_l4Node.f (k : Nat) (a0_0 : ByteArray) (a0_1 : ByteArray) (a0_2 : Int) (a0_3 : Int) (a0_4 : Int) (a0_5 : Int) (a0_6 : Int) : Option (List Int) := (spec_l4Text.f a0_0).bind fun t149 => ((spec_l4Text.f a0_1).bind fun t152 => (if t149.length + t152.length < 140737488355328 then ((some (t149 ++ t152 : List Int)).bind fun y155 => ((spec_l4Big.f k a0_2 4).bind fun t158 => (if y155.length + t158.length < 140737488355328 then ((some (y155 ++ t158 : List Int)).bind fun y161 => ((spec_l4Big.f k a0_3 4).bind fun t164 => (if y161.length + t164.length < 140737488355328 then ((some (y161 ++ t164 : List Int)).bind fun y167 => ((spec_l4Big.f k a0_4 4).bind fun t170 => (if y167.length + t170.length < 140737488355328 then ((some (y167 ++ t170 : List Int)).bind fun y173 => ((spec_l4Big.f k a0_5 4).bind fun t176 => (if y173.length + t176.length < 140737488355328 then ((some (y173 ++ t176 : List Int)).bind fun y179 => ((spec_l4Big.f k a0_6 4).bind fun t182 => (if y179.length + t182.length < 140737488355328 then (some (y179 ++ t182)) else (none)))) else (none)))) else (none)))) else (none)))) else (none)))) else (none)))
theorem spec_l4Node.mono : ∀ a0 a1 a2 a3 a4 a5 a6 k, LeO (spec_l4Node.f k a0 a1 a2 a3 a4 a5 a6) (spec_l4Node.f (k + 1) a0 a1 a2 a3 a4 a5 a6) := by
 intro a0 a1 a2 a3 a4 a5 a6 k
 unfold spec_l4Node.f
 repeat' first
   | (with_reducible exact spec_l4Big.mono _ _ _)
   | (with_reducible exact LeO.refl _)
   | (with_reducible exact LeO.none _)
   | (with_reducible refine LeO.ite ?_ ?_)
   | (with_reducible refine LeO.bind ?_ (fun _ => ?_))
   | exact spec_l4Big.mono _ _ _
   | exact LeO.none _
   | refine LeO.ite ?_ ?_
   | refine LeO.bind ?_ (fun _ => ?_)
def spec_l4Node.T1 : Bool × List (List Nat × List Nat) := (true, [([], []), ([0], [0]), ([1], [1]), ([], []), ([3], [3]), ([4, 2], [4]), ([2, 5, 5], [2, 5]), ([6, 6, 0, 1, 2, 3, 4, 5, 6], [6])])
def spec_l4Node.B1 : List Nat := [0, 1, 3, 0, 8, 31, 63, 127]
theorem spec_l4Node.tab1 : rtab .any (opsOf Tryd.f186 1) = spec_l4Node.T1 := by kernel_rfl
theorem spec_l4Node.bits1 : waitsOk spec_l4Node.T1.2 spec_l4Node.B1 = true := by kernel_rfl
set_option maxHeartbeats 8000000 in
set_option maxRecDepth 100000 in
theorem spec_l4Node.calls (k : Nat) (a0_0 : ByteArray) (a0_1 : ByteArray) (a0_2 : Int) (a0_3 : Int) (a0_4 : Int) (a0_5 : Int) (a0_6 : Int) (r : List Int) (w : World) (h : spec_l4Node.f k a0_0 a0_1 a0_2 a0_3 a0_4 a0_5 a0_6 = some r) :
  Calls Tryd.prog 186 #[.agg #[.string a0_0, .string a0_1, .int .i64 a0_2, .int .i64 a0_3, .int .i64 a0_4, .int .i64 a0_5, .int .i64 a0_6]] w fun e w' => ∃ v0_ : Value, e = .returned (v0_) ∧ Kd.R (Kd.int .u8) 5 w' w.heap.size (fun _ => True) v0_ r ∧ Below w.heap.size w w' := by
 have hu92 := Tryd.underlying92
 have HB := Aside0.mk (Below.refl w.heap.size w)
 have H : ((spec_l4Text.f a0_0).bind fun t149 => ((spec_l4Text.f a0_1).bind fun t152 => (if t149.length + t152.length < 140737488355328 then ((some (t149 ++ t152 : List Int)).bind fun y155 => ((spec_l4Big.f k a0_2 4).bind fun t158 => (if y155.length + t158.length < 140737488355328 then ((some (y155 ++ t158 : List Int)).bind fun y161 => ((spec_l4Big.f k a0_3 4).bind fun t164 => (if y161.length + t164.length < 140737488355328 then ((some (y161 ++ t164 : List Int)).bind fun y167 => ((spec_l4Big.f k a0_4 4).bind fun t170 => (if y167.length + t170.length < 140737488355328 then ((some (y167 ++ t170 : List Int)).bind fun y173 => ((spec_l4Big.f k a0_5 4).bind fun t176 => (if y173.length + t176.length < 140737488355328 then ((some (y173 ++ t176 : List Int)).bind fun y179 => ((spec_l4Big.f k a0_6 4).bind fun t182 => (if y179.length + t182.length < 140737488355328 then (some (y179 ++ t182)) else (none)))) else (none)))) else (none)))) else (none)))) else (none)))) else (none)))) = some r := h
 clear h
 replace H := Option.bind_eq_some_iff.mp H
 obtain ⟨t149, A20, H⟩ := H
 replace H : ((spec_l4Text.f a0_1).bind fun t152 => (if t149.length + t152.length < 140737488355328 then ((some (t149 ++ t152 : List Int)).bind fun y155 => ((spec_l4Big.f k a0_2 4).bind fun t158 => (if y155.length + t158.length < 140737488355328 then ((some (y155 ++ t158 : List Int)).bind fun y161 => ((spec_l4Big.f k a0_3 4).bind fun t164 => (if y161.length + t164.length < 140737488355328 then ((some (y161 ++ t164 : List Int)).bind fun y167 => ((spec_l4Big.f k a0_4 4).bind fun t170 => (if y167.length + t170.length < 140737488355328 then ((some (y167 ++ t170 : List Int)).bind fun y173 => ((spec_l4Big.f k a0_5 4).bind fun t176 => (if y173.length + t176.length < 140737488355328 then ((some (y173 ++ t176 : List Int)).bind fun y179 => ((spec_l4Big.f k a0_6 4).bind fun t182 => (if y179.length + t182.length < 140737488355328 then (some (y179 ++ t182)) else (none)))) else (none)))) else (none)))) else (none)))) else (none)))) else (none))) = some r := H
 have A2 := Aside0.mk A20
 clear A20
 replace H := Option.bind_eq_some_iff.mp H
 obtain ⟨t152, A30, H⟩ := H
 replace H : (if t149.length + t152.length < 140737488355328 then ((some (t149 ++ t152 : List Int)).bind fun y155 => ((spec_l4Big.f k a0_2 4).bind fun t158 => (if y155.length + t158.length < 140737488355328 then ((some (y155 ++ t158 : List Int)).bind fun y161 => ((spec_l4Big.f k a0_3 4).bind fun t164 => (if y161.length + t164.length < 140737488355328 then ((some (y161 ++ t164 : List Int)).bind fun y167 => ((spec_l4Big.f k a0_4 4).bind fun t170 => (if y167.length + t170.length < 140737488355328 then ((some (y167 ++ t170 : List Int)).bind fun y173 => ((spec_l4Big.f k a0_5 4).bind fun t176 => (if y173.length + t176.length < 140737488355328 then ((some (y173 ++ t176 : List Int)).bind fun y179 => ((spec_l4Big.f k a0_6 4).bind fun t182 => (if y179.length + t182.length < 140737488355328 then (some (y179 ++ t182)) else (none)))) else (none)))) else (none)))) else (none)))) else (none)))) else (none)) = some r := H
 have A3 := Aside0.mk A30
 clear A30
 by_cases c4 : t149.length + t152.length < 140737488355328
 ·rw [if_pos c4] at H
  have LMc4 := Aside0.mk c4
  clear c4
  obtain ⟨y155, hy155⟩ : ∃ y_ : List Int, y_ = (t149 ++ t152) := ⟨_, rfl⟩
  replace H : ((spec_l4Big.f k a0_2 4).bind fun t158 => (if y155.length + t158.length < 140737488355328 then ((some (y155 ++ t158 : List Int)).bind fun y161 => ((spec_l4Big.f k a0_3 4).bind fun t164 => (if y161.length + t164.length < 140737488355328 then ((some (y161 ++ t164 : List Int)).bind fun y167 => ((spec_l4Big.f k a0_4 4).bind fun t170 => (if y167.length + t170.length < 140737488355328 then ((some (y167 ++ t170 : List Int)).bind fun y173 => ((spec_l4Big.f k a0_5 4).bind fun t176 => (if y173.length + t176.length < 140737488355328 then ((some (y173 ++ t176 : List Int)).bind fun y179 => ((spec_l4Big.f k a0_6 4).bind fun t182 => (if y179.length + t182.length < 140737488355328 then (some (y179 ++ t182)) else (none)))) else (none)))) else (none)))) else (none)))) else (none))) = some r := by first | (rw [hy155]; with_reducible exact H) | (have H2_ := (Option.bind_some _ _).symm.trans H; rw [hy155]; with_reducible exact H2_) | (have H2_ := (Option.bind_some _ _).symm.trans H; with_reducible exact H2_) | with_reducible exact H | (rw [hy155]; exact H) | exact H
  have Ny155 := Aside0.mk hy155
  clear hy155
  replace H := Option.bind_eq_some_iff.mp H
  obtain ⟨t158, A50, H⟩ := H
  replace H : (if y155.length + t158.length < 140737488355328 then ((some (y155 ++ t158 : List Int)).bind fun y161 => ((spec_l4Big.f k a0_3 4).bind fun t164 => (if y161.length + t164.length < 140737488355328 then ((some (y161 ++ t164 : List Int)).bind fun y167 => ((spec_l4Big.f k a0_4 4).bind fun t170 => (if y167.length + t170.length < 140737488355328 then ((some (y167 ++ t170 : List Int)).bind fun y173 => ((spec_l4Big.f k a0_5 4).bind fun t176 => (if y173.length + t176.length < 140737488355328 then ((some (y173 ++ t176 : List Int)).bind fun y179 => ((spec_l4Big.f k a0_6 4).bind fun t182 => (if y179.length + t182.length < 140737488355328 then (some (y179 ++ t182)) else (none)))) else (none)))) else (none)))) else (none)))) else (none)) = some r := H
  have A5 := Aside0.mk A50
  clear A50
  by_cases c6 : y155.length + t158.length < 140737488355328
  ·rw [if_pos c6] at H
   have LMc6 := Aside0.mk c6
   clear c6
   obtain ⟨y161, hy161⟩ : ∃ y_ : List Int, y_ = (y155 ++ t158) := ⟨_, rfl⟩
   replace H : ((spec_l4Big.f k a0_3 4).bind fun t164 => (if y161.length + t164.length < 140737488355328 then ((some (y161 ++ t164 : List Int)).bind fun y167 => ((spec_l4Big.f k a0_4 4).bind fun t170 => (if y167.length + t170.length < 140737488355328 then ((some (y167 ++ t170 : List Int)).bind fun y173 => ((spec_l4Big.f k a0_5 4).bind fun t176 => (if y173.length + t176.length < 140737488355328 then ((some (y173 ++ t176 : List Int)).bind fun y179 => ((spec_l4Big.f k a0_6 4).bind fun t182 => (if y179.length + t182.length < 140737488355328 then (some (y179 ++ t182)) else (none)))) else (none)))) else (none)))) else (none))) = some r := by first | (rw [hy161]; with_reducible exact H) | (have H2_ := (Option.bind_some _ _).symm.trans H; rw [hy161]; with_reducible exact H2_) | (have H2_ := (Option.bind_some _ _).symm.trans H; with_reducible exact H2_) | with_reducible exact H | (rw [hy161]; exact H) | exact H
   have Ny161 := Aside0.mk hy161
   clear hy161
   replace H := Option.bind_eq_some_iff.mp H
   obtain ⟨t164, A70, H⟩ := H
   replace H : (if y161.length + t164.length < 140737488355328 then ((some (y161 ++ t164 : List Int)).bind fun y167 => ((spec_l4Big.f k a0_4 4).bind fun t170 => (if y167.length + t170.length < 140737488355328 then ((some (y167 ++ t170 : List Int)).bind fun y173 => ((spec_l4Big.f k a0_5 4).bind fun t176 => (if y173.length + t176.length < 140737488355328 then ((some (y173 ++ t176 : List Int)).bind fun y179 => ((spec_l4Big.f k a0_6 4).bind fun t182 => (if y179.length + t182.length < 140737488355328 then (some (y179 ++ t182)) else (none)))) else (none)))) else (none)))) else (none)) = some r := H
   have A7 := Aside0.mk A70
   clear A70
   by_cases c8 : y161.length + t164.length < 140737488355328
   ·rw [if_pos c8] at H
    have LMc8 := Aside0.mk c8
    clear c8
    obtain ⟨y167, hy167⟩ : ∃ y_ : List Int, y_ = (y161 ++ t164) := ⟨_, rfl⟩
    replace H : ((spec_l4Big.f k a0_4 4).bind fun t170 => (if y167.length + t170.length < 140737488355328 then ((some (y167 ++ t170 : List Int)).bind fun y173 => ((spec_l4Big.f k a0_5 4).bind fun t176 => (if y173.length + t176.length < 140737488355328 then ((some (y173 ++ t176 : List Int)).bind fun y179 => ((spec_l4Big.f k a0_6 4).bind fun t182 => (if y179.length + t182.length < 140737488355328 then (some (y179 ++ t182)) else (none)))) else (none)))) else (none))) = some r := by first | (rw [hy167]; with_reducible exact H) | (have H2_ := (Option.bind_some _ _).symm.trans H; rw [hy167]; with_reducible exact H2_) | (have H2_ := (Option.bind_some _ _).symm.trans H; with_reducible exact H2_) | with_reducible exact H | (rw [hy167]; exact H) | exact H
    have Ny167 := Aside0.mk hy167
    clear hy167
    replace H := Option.bind_eq_some_iff.mp H
    obtain ⟨t170, A90, H⟩ := H
    replace H : (if y167.length + t170.length < 140737488355328 then ((some (y167 ++ t170 : List Int)).bind fun y173 => ((spec_l4Big.f k a0_5 4).bind fun t176 => (if y173.length + t176.length < 140737488355328 then ((some (y173 ++ t176 : List Int)).bind fun y179 => ((spec_l4Big.f k a0_6 4).bind fun t182 => (if y179.length + t182.length < 140737488355328 then (some (y179 ++ t182)) else (none)))) else (none)))) else (none)) = some r := H
    have A9 := Aside0.mk A90
    clear A90
    by_cases c10 : y167.length + t170.length < 140737488355328
    ·rw [if_pos c10] at H
     have LMc10 := Aside0.mk c10
     clear c10
     obtain ⟨y173, hy173⟩ : ∃ y_ : List Int, y_ = (y167 ++ t170) := ⟨_, rfl⟩
     replace H : ((spec_l4Big.f k a0_5 4).bind fun t176 => (if y173.length + t176.length < 140737488355328 then ((some (y173 ++ t176 : List Int)).bind fun y179 => ((spec_l4Big.f k a0_6 4).bind fun t182 => (if y179.length + t182.length < 140737488355328 then (some (y179 ++ t182)) else (none)))) else (none))) = some r := by first | (rw [hy173]; with_reducible exact H) | (have H2_ := (Option.bind_some _ _).symm.trans H; rw [hy173]; with_reducible exact H2_) | (have H2_ := (Option.bind_some _ _).symm.trans H; with_reducible exact H2_) | with_reducible exact H | (rw [hy173]; exact H) | exact H
     have Ny173 := Aside0.mk hy173
     clear hy173
     replace H := Option.bind_eq_some_iff.mp H
     obtain ⟨t176, A110, H⟩ := H
     replace H : (if y173.length + t176.length < 140737488355328 then ((some (y173 ++ t176 : List Int)).bind fun y179 => ((spec_l4Big.f k a0_6 4).bind fun t182 => (if y179.length + t182.length < 140737488355328 then (some (y179 ++ t182)) else (none)))) else (none)) = some r := H
     have A11 := Aside0.mk A110
     clear A110
     by_cases c12 : y173.length + t176.length < 140737488355328
     ·rw [if_pos c12] at H
      have LMc12 := Aside0.mk c12
      clear c12
      obtain ⟨y179, hy179⟩ : ∃ y_ : List Int, y_ = (y173 ++ t176) := ⟨_, rfl⟩
      replace H : ((spec_l4Big.f k a0_6 4).bind fun t182 => (if y179.length + t182.length < 140737488355328 then (some (y179 ++ t182)) else (none))) = some r := by first | (rw [hy179]; with_reducible exact H) | (have H2_ := (Option.bind_some _ _).symm.trans H; rw [hy179]; with_reducible exact H2_) | (have H2_ := (Option.bind_some _ _).symm.trans H; with_reducible exact H2_) | with_reducible exact H | (rw [hy179]; exact H) | exact H
      have Ny179 := Aside0.mk hy179
      clear hy179
      replace H := Option.bind_eq_some_iff.mp H
      obtain ⟨t182, A130, H⟩ := H
      replace H : (if y179.length + t182.length < 140737488355328 then (some (y179 ++ t182)) else (none)) = some r := H
      have A13 := Aside0.mk A130
      clear A130
      by_cases c14 : y179.length + t182.length < 140737488355328
      ·rw [if_pos c14] at H
       have LMc14 := Aside0.mk c14
       clear c14
       obtain ⟨y185, hy185⟩ : ∃ y_ : List Int, y_ = (y179 ++ t182) := ⟨_, rfl⟩
       replace H : (some y185) = some r := by first | (rw [hy185]; with_reducible exact H) | (have H2_ := (Option.bind_some _ _).symm.trans H; rw [hy185]; with_reducible exact H2_) | (have H2_ := (Option.bind_some _ _).symm.trans H; with_reducible exact H2_) | with_reducible exact H | (rw [hy185]; exact H) | exact H
       have Ny185 := Aside0.mk hy185
       clear hy185
       obtain rfl := Option.some.inj H
       go_enter Tryd.func186, Tryd.ntmps186
       try go_wp2_with (first | ((with_reducible refine zr (N := 1) rfl ?_); refine zu ?hg (N := 1) ?hd (cs := #[.string a0_0, .string a0_1, .int .i64 a0_2, .int .i64 a0_3, .int .i64 a0_4, .int .i64 a0_5, .int .i64 a0_6]) (t := 92) ?hr ?_; (case hd => rfl); (case hg => rfl); (case hr => first | (go_simp; done) | (go_simp; rfl)); intro zB hg w15 hbox hb; have n0_ := Aside0.mk (zm (by repeat (first | (with_reducible first | exact HB.out | apply zd | apply zb | apply zc) | exact HB.out)) hb); have n1_ := Aside0.mk (hbox); have n2_ := Aside0.mk ((by rw [hg]; exact (zk (by repeat (first | (with_reducible first | exact HB.out | apply zd | apply zb | apply zc) | exact HB.out))) : w.heap.size ≤ zB)); have n3_ := Aside0.mk ((by rw [hg]; exact (zk (by repeat (first | (with_reducible first | exact HB.out | apply zd | apply zb | apply zc) | exact HB.out))) : w.heap.size ≤ zB)); clear HB; have HB := n0_; have zA := n1_; have GW148 := n2_; have zF := n3_; clear n0_ n1_ n2_ n3_; clear hb hbox hg))
       have n0_ := Aside0.mk (zl zA.out)
       have n1_ := Aside0.mk (zc HB.out)
       clear zA
       clear HB
       have zA := n0_
       have HB := n1_
       clear n0_ n1_
       refine start_ (n := 8) (S := fun w' => w'.cell? ⟨zB, 0, none⟩ = some (.string a0_0) ∧ w'.cell? ⟨zB, 1, none⟩ = some (.string a0_1) ∧ w'.cell? ⟨zB, 2, none⟩ = some (.int .i64 a0_2) ∧ w'.cell? ⟨zB, 3, none⟩ = some (.int .i64 a0_3) ∧ w'.cell? ⟨zB, 4, none⟩ = some (.int .i64 a0_4) ∧ w'.cell? ⟨zB, 5, none⟩ = some (.int .i64 a0_5) ∧ w'.cell? ⟨zB, 6, none⟩ = some (.int .i64 a0_6)) (ds := []) #[false, false, false, false, false, false, false, false] (by kernel_rfl) rfl rfl ⟨(ze zA.out 0).trans rfl, (ze zA.out 1).trans rfl, (ze zA.out 2).trans rfl, (ze zA.out 3).trans rfl, (ze zA.out 4).trans rfl, (ze zA.out 5).trans rfl, (ze zA.out 6).trans rfl⟩ (fun hHeld => ?_); refine with_tabW spec_l4Node.tab1 spec_l4Node.bits1 (fun HT_ HW_ => ?_)
       generalize w15.drew = w16 at zA HB hHeld ⊢
       refine zv (i := 0) (N := some 4) (v := ?_) (a' := ?_) #[true, false, false, false, false, false, false, false] rfl rfl (zt HT_.out (by kernel_rfl)) (fun _ _ _ h => h) (Or.inl ⟨by rfl, ?_⟩) ?_ ?_
       rotate_left
       ·intro w'
        go_simp
        with_reducible rfl
       rotate_left
       ·simp only [Act.put, List.setIfInBounds_toArray, List.set_cons_zero, List.set_cons_succ, zp, zq]
        rfl
       refine zv (i := 3) (N := some 7) (v := ?_) (a' := ?_) #[true, false, false, true, false, false, false, false] rfl rfl (zt HT_.out (by kernel_rfl)) (fun _ _ _ h => h) (Or.inl ⟨by rfl, ?_⟩) ?_ ?_
       rotate_left
       ·intro w'
        go_simp
        with_reducible rfl
       rotate_left
       ·simp only [Act.put, List.setIfInBounds_toArray, List.set_cons_zero, List.set_cons_succ, zp, zq]
        rfl
       refine take_ (i := 1) (N := some 5) (v := ?_) (a' := ?_) #[true, true, false, true, false, false, false, false] rfl rfl (take_ofW HT_.out HW_.out (by kernel_rfl)) (fun _ _ _ h => h) (Or.inl ⟨by rfl, ?_⟩) hHeld ?_ ?_
       rotate_left
       ·rintro w' ⟨s0, s1, s2, s3, s4, s5, s6⟩
        go_simp
        with_reducible rfl
       rotate_left
       ·simp only [Act.put, List.setIfInBounds_toArray, List.set_cons_zero, List.set_cons_succ, zp, zq]
        rfl
       refine take_ (i := 4) (N := some 8) (v := ?_) (a' := ?_) #[true, true, false, true, true, false, false, false] rfl rfl (take_ofW HT_.out HW_.out (by kernel_rfl)) (fun _ _ _ h => h) (Or.inl ⟨by rfl, ?_⟩) hHeld ?_ ?_
       rotate_left
       ·rintro w' ⟨s0, s1, s2, s3, s4, s5, s6⟩
        go_simp
        with_reducible rfl
       rotate_left
       ·simp only [Act.put, List.setIfInBounds_toArray, List.set_cons_zero, List.set_cons_succ, zp, zq]
        rfl
       refine one_ (i := 2) (N := some 6) #[true, true, true, true, true, false, false, false] rfl rfl (one_of HT_.out (by kernel_rfl)) (by decide) (fun K hK => ?_)
       refine goes_ Tryd.func216 (by kernel_rfl) rfl #[.string a0_0] (by rfl) rfl rfl (by (try simp only [List.map_toArray, List.map_cons, List.map_nil]); first | done | rfl | (simp only [List.length_drop, List.length_take]; rfl)) ?_
       with_reducible refine (spec_l4Text.calls a0_0 t149 _ A2.out).mono ?_
       rintro e w17 ⟨v150, rfl, zG, hb⟩
       refine ⟨_, rfl, ?_⟩
       have n0_ := Aside0.mk (Kd.R_lower zG (zk (by repeat (first | (with_reducible first | exact HB.out | apply zd | apply zb | apply zc | refine zh ?_ zF.out) | exact HB.out))))
       have n1_ := Aside0.mk (zo (g := zB) (o := .cells #[.string a0_0, .string a0_1, .int .i64 a0_2, .int .i64 a0_3, .int .i64 a0_4, .int .i64 a0_5, .int .i64 a0_6] 92 (0, 0)) (by (with_reducible repeat (first | refine zj ?_ _ | refine zl ?_ | refine zi ?_ _)); exact zA.out) hb)
       have n2_ := Aside0.mk (zm (by repeat (first | (with_reducible first | exact HB.out | apply zd | apply zb | apply zc | refine zh ?_ zF.out) | exact HB.out)) hb)
       clear zA
       clear HB
       have zJ := n0_
       have zA := n1_
       have HB := n2_
       clear n0_ n1_ n2_
       (try clear hb)
       (try clear hb2)
       (try clear hk)
       (try clear hi)
       (try clear zG)
       refine hK.out _ _ ⟨(ze zA.out 0).trans rfl, (ze zA.out 1).trans rfl, (ze zA.out 2).trans rfl, (ze zA.out 3).trans rfl, (ze zA.out 4).trans rfl, (ze zA.out 5).trans rfl, (ze zA.out 6).trans rfl⟩ (fun hHeld => ?_)
       clear hK K
       refine norm_ (a' := ?_) ?_ ?_
       rotate_left
       ·show Act.put _ (some 6) _ = _
        simp only [Act.put, List.setIfInBounds_toArray, List.set_cons_zero, List.set_cons_succ, zp, zq]
        rfl
       refine one_ (i := 5) (N := some 9) #[true, true, true, true, true, true, false, false] rfl rfl (one_of HT_.out (by kernel_rfl)) (by decide) (fun K hK => ?_)
       refine goes_ Tryd.func216 (by kernel_rfl) rfl #[.string a0_1] (by rfl) rfl rfl (by (try simp only [List.map_toArray, List.map_cons, List.map_nil]); first | done | rfl | (simp only [List.length_drop, List.length_take]; rfl)) ?_
       with_reducible refine (spec_l4Text.calls a0_1 t152 _ A3.out).mono ?_
       rintro e w18 ⟨v153, rfl, zG, hb⟩
       refine ⟨_, rfl, ?_⟩
       have n0_ := Aside0.mk (Kd.R_elder' (by (with_reducible repeat (first | apply Kd.R_alloc | apply Kd.R_drewN | apply Kd.R_drew)); exact zJ.out) (Kd.R_base zG) hb)
       have n1_ := Aside0.mk (Kd.R_lower (Kd.R_new' zG (Kd.R_lt (by (with_reducible repeat (first | apply Kd.R_alloc | apply Kd.R_drewN | apply Kd.R_drew)); exact zJ.out))) (zk (by repeat (first | (with_reducible first | exact HB.out | apply zd | apply zb | apply zc | refine zh ?_ zF.out) | exact HB.out))))
       have n2_ := Aside0.mk (zo (g := zB) (o := .cells #[.string a0_0, .string a0_1, .int .i64 a0_2, .int .i64 a0_3, .int .i64 a0_4, .int .i64 a0_5, .int .i64 a0_6] 92 (0, 0)) (by (with_reducible repeat (first | refine zj ?_ _ | refine zl ?_ | refine zi ?_ _)); exact zA.out) hb)
       have n3_ := Aside0.mk (zm (by repeat (first | (with_reducible first | exact HB.out | apply zd | apply zb | apply zc | refine zh ?_ zF.out) | exact HB.out)) hb)
       clear zJ
       clear zA
       clear HB
       have zJ := n0_
       have zC := n1_
       have zA := n2_
       have HB := n3_
       clear n0_ n1_ n2_ n3_
       (try clear hb)
       (try clear hb2)
       (try clear hk)
       (try clear hi)
       (try clear zG)
       obtain ⟨Ao20, co20, eo20⟩ := Kd.R_slice zC.out
       (first | subst eo20 | (injection eo20 with f1_ f2_ f3_; have f4_ := f1_.symm; have f5_ := f3_.symm; clear f1_ f2_ f3_; subst f4_; subst f5_))
       refine hK.out _ _ ⟨(ze zA.out 0).trans rfl, (ze zA.out 1).trans rfl, (ze zA.out 2).trans rfl, (ze zA.out 3).trans rfl, (ze zA.out 4).trans rfl, (ze zA.out 5).trans rfl, (ze zA.out 6).trans rfl⟩ (fun hHeld => ?_)
       clear hK K
       refine norm_ (a' := ?_) ?_ ?_
       rotate_left
       ·show Act.put _ (some 9) _ = _
        simp only [Act.put, List.setIfInBounds_toArray, List.set_cons_zero, List.set_cons_succ, zp, zq]
        rfl
       refine one_ (i := 6) (N := some 10) #[true, true, true, true, true, true, true, false] rfl rfl (one_of HT_.out (by kernel_rfl)) (by decide) (fun K hK => ?_)
       refine Kd.R_append_rows_step (Kd.int .u8) (w0 := w) w.heap.size (by rfl) (.tmp 6) (.tmp 9) 22 5 (.int .u8 0) 1 rfl Tryd.underlying22 info5 rfl (by decide) (by omega) v150 t149 t152 _ _ _ (fun k_ => some k_ ≠ (.slice Ao20 t152.length co20 : Value).ownBlock) (fun _ => False) rfl rfl ?aO ?aR (fun _ _ h => h) (fun _ h => h.elim) ?aF ?aB ?aS ?aL ?_
       (case aR => repeat (first | exact (Kd.R_reads' zC.out).2.2 | (with_reducible refine Kd.C_alloc ?_ _) | (with_reducible refine Kd.C_drewN ?_ _) | (with_reducible refine Kd.C_drew ?_)))
       (case aB => exact (by repeat (first | (with_reducible first | exact HB.out | apply zd | apply zb | apply zc | refine zh ?_ zF.out) | exact HB.out)))
       (case aF => exact (fun k_ hk => Kd.fresh' (Kd.R_lt (by (with_reducible repeat (first | apply Kd.R_alloc | apply Kd.R_drewN | apply Kd.R_drew)); exact zC.out)) k_ hk))
       (case aO => exact (by (with_reducible repeat (first | apply Kd.R_alloc | apply Kd.R_drewN | apply Kd.R_drew)); exact Kd.R_mono zJ.out (fun _ hk => hk.2)))
       (case aS => exact (zk (by repeat (first | (with_reducible first | exact HB.out | apply zd | apply zb | apply zc | refine zh ?_ zF.out) | exact HB.out))))
       (case aL => have := LMc4.out; omega)
       intro v156 w19 ho hb hg hat
       rw [← Ny155.out] at ho
       have n0_ := Aside0.mk (zz (g := zB) (o := .cells #[.string a0_0, .string a0_1, .int .i64 a0_2, .int .i64 a0_3, .int .i64 a0_4, .int .i64 a0_5, .int .i64 a0_6] 92 (0, 0)) (by (with_reducible repeat (first | refine zj ?_ _ | refine zl ?_ | refine zi ?_ _)); exact zA.out) hg (Kd.R_ne zJ.out zA.out (by decide)))
       have n1_ := Aside0.mk (Kd.R_after (ok := (fun _ => True)) (by (with_reducible repeat (first | apply Kd.R_alloc | apply Kd.R_drewN | apply Kd.R_drew)); exact zC.out) hg hat)
       have n2_ := Aside0.mk (hb)
       have n3_ := Aside0.mk (ho)
       clear zA
       clear zC
       clear HB
       clear zJ
       have zA := n0_
       have zC := n1_
       have HB := n2_
       have zK := n3_
       clear n0_ n1_ n2_ n3_
       clear ho hb hg hat
       refine hK.out _ _ ⟨(ze zA.out 0).trans rfl, (ze zA.out 1).trans rfl, (ze zA.out 2).trans rfl, (ze zA.out 3).trans rfl, (ze zA.out 4).trans rfl, (ze zA.out 5).trans rfl, (ze zA.out 6).trans rfl⟩ (fun hHeld => ?_)
       clear hK K
       refine norm_ (a' := ?_) ?_ ?_
       rotate_left
       ·show Act.put _ (some 10) _ = _
        simp only [Act.put, List.setIfInBounds_toArray, List.set_cons_zero, List.set_cons_succ, zp, zq]
        rfl
       refine zv (i := 7) (N := some 3) (v := ?_) (a' := ?_) #[true, true, true, true, true, true, true, true] rfl rfl (zt HT_.out (by kernel_rfl)) (fun _ _ _ h => h) (Or.inl ⟨by rfl, ?_⟩) ?_ ?_
       rotate_left
       ·intro w'
        go_simp
        with_reducible rfl
       rotate_left
       ·simp only [Act.put, List.setIfInBounds_toArray, List.set_cons_zero, List.set_cons_succ, zp, zq]
        rfl
       refine done_ (done_of HT_.out (by kernel_rfl)) ?_
       have zR : w19.cell? ⟨zB, 0, none⟩ = some (.string a0_0) := (ze zA.out 0).trans rfl
       have zS : w19.cell? ⟨zB, 1, none⟩ = some (.string a0_1) := (ze zA.out 1).trans rfl
       have zT : w19.cell? ⟨zB, 2, none⟩ = some (.int .i64 a0_2) := (ze zA.out 2).trans rfl
       have zU : w19.cell? ⟨zB, 3, none⟩ = some (.int .i64 a0_3) := (ze zA.out 3).trans rfl
       have zV : w19.cell? ⟨zB, 4, none⟩ = some (.int .i64 a0_4) := (ze zA.out 4).trans rfl
       have zW : w19.cell? ⟨zB, 5, none⟩ = some (.int .i64 a0_5) := (ze zA.out 5).trans rfl
       have zX : w19.cell? ⟨zB, 6, none⟩ = some (.int .i64 a0_6) := (ze zA.out 6).trans rfl
       have zY := zg zA.out 0
       have zZ := zg zA.out 1
       have zab := zg zA.out 2
       have zbb := zg zA.out 3
       have zcb := zg zA.out 4
       have zdb := zg zA.out 5
       have zeb := zg zA.out 6
       try go_wp2_with (first | ((with_reducible refine zn (f := 141) rfl ?_); refine zx (some 14) rfl rfl Tryd.func141 (by kernel_rfl) rfl #[.int .i64 a0_2, .int .i64 4] rfl (by (try simp only [List.map_toArray, List.map_cons, List.map_nil]); first | done | rfl | (simp only [List.length_drop, List.length_take]; rfl)) ?_; (with_reducible refine (spec_l4Big.calls k a0_2 4 t158 _ A5.out).mono ?_); rintro e w22 ⟨v159, rfl, zG, hb⟩; refine ⟨_, rfl, ?_⟩; have n0_ := Aside0.mk (Kd.R_elder' (by (with_reducible repeat (first | apply Kd.R_alloc | apply Kd.R_drewN | apply Kd.R_drew)); exact zC.out) (Kd.R_base zG) hb); have n1_ := Aside0.mk (Kd.R_elder' (by (with_reducible repeat (first | apply Kd.R_alloc | apply Kd.R_drewN | apply Kd.R_drew)); exact zK.out) (Kd.R_base zG) hb); have n2_ := Aside0.mk (Kd.R_lower (Kd.R_new' (Kd.R_new' zG (Kd.R_lt (by (with_reducible repeat (first | apply Kd.R_alloc | apply Kd.R_drewN | apply Kd.R_drew)); exact zC.out))) (Kd.R_lt (by (with_reducible repeat (first | apply Kd.R_alloc | apply Kd.R_drewN | apply Kd.R_drew)); exact zK.out))) (zk (by repeat (first | (with_reducible first | exact HB.out | apply zd | apply zb | apply zc | refine zh ?_ zF.out) | exact HB.out)))); have n3_ := Aside0.mk (zo (g := zB) (o := .cells #[.string a0_0, .string a0_1, .int .i64 a0_2, .int .i64 a0_3, .int .i64 a0_4, .int .i64 a0_5, .int .i64 a0_6] 92 (0, 0)) (by (with_reducible repeat (first | refine zj ?_ _ | refine zl ?_ | refine zi ?_ _)); exact zA.out) hb); have n4_ := Aside0.mk (zm (by repeat (first | (with_reducible first | exact HB.out | apply zd | apply zb | apply zc | refine zh ?_ zF.out) | exact HB.out)) hb); clear zC; clear zK; clear zA; clear HB; have zC := n0_; have zK := n1_; have zD := n2_; have zA := n3_; have HB := n4_; clear n0_ n1_ n2_ n3_ n4_; (try clear hb); (try clear hb2); (try clear hk); (try clear hi); (try clear zG); obtain ⟨Ao24, co24, eo24⟩ := Kd.R_slice zD.out; subst eo24) | ((with_reducible refine gate_builtin (b := .append) (xs := #[.tmp 11, .tmp 14]) rfl ?_); at_builtin; refine Kd.R_append_rows (Kd.int .u8) (w0 := w) w.heap.size rfl (.tmp 11) (.tmp 14) 22 5 (.int .u8 0) 1 rfl Tryd.underlying22 info5 rfl (by decide) (by omega) v156 y155 t158 _ _ _ (fun k_ => some k_ ≠ (.slice Ao20 t152.length co20 : Value).ownBlock ∧ some k_ ≠ (.slice Ao24 t158.length co24 : Value).ownBlock) (fun _ => False) rfl rfl ?aO ?aR (fun _ _ h => h) (fun _ h => h.elim) ?aF ?aB ?aS ?aL ?_; (case aR => repeat (first | exact (Kd.R_reads' zD.out).2.2 | (with_reducible refine Kd.C_alloc ?_ _) | (with_reducible refine Kd.C_drewN ?_ _) | (with_reducible refine Kd.C_drew ?_))); (case aB => exact (by repeat (first | (with_reducible first | exact HB.out | apply zd | apply zb | apply zc | refine zh ?_ zF.out) | exact HB.out))); (case aF => exact (fun k_ hk => ⟨Kd.fresh' (Kd.R_lt (by (with_reducible repeat (first | apply Kd.R_alloc | apply Kd.R_drewN | apply Kd.R_drew)); exact zC.out)) k_ hk, Kd.fresh' (Kd.R_lt (by (with_reducible repeat (first | apply Kd.R_alloc | apply Kd.R_drewN | apply Kd.R_drew)); exact zD.out)) k_ hk⟩)); (case aO => exact (by (with_reducible repeat (first | apply Kd.R_alloc | apply Kd.R_drewN | apply Kd.R_drew)); exact zK.out)); (case aS => exact (zk (by repeat (first | (with_reducible first | exact HB.out | apply zd | apply zb | apply zc | refine zh ?_ zF.out) | exact HB.out)))); (case aL => have := LMc6.out; omega); intro v162 w23 ho hb hg hat; rw [← Ny161.out] at ho; have n0_ := Aside0.mk (zz (g := zB) (o := .cells #[.string a0_0, .string a0_1, .int .i64 a0_2, .int .i64 a0_3, .int .i64 a0_4, .int .i64 a0_5, .int .i64 a0_6] 92 (0, 0)) (by (with_reducible repeat (first | refine zj ?_ _ | refine zl ?_ | refine zi ?_ _)); exact zA.out) hg (Kd.R_ne zK.out zA.out (by decide))); have n1_ := Aside0.mk (Kd.R_after (ok := (fun k_ => some k_ ≠ (.slice Ao24 t158.length co24 : Value).ownBlock)) (by (with_reducible repeat (first | apply Kd.R_alloc | apply Kd.R_drewN | apply Kd.R_drew)); exact Kd.R_mono zC.out (fun _ hk => ⟨hk.2, hk.1.2⟩)) hg hat); have n2_ := Aside0.mk (Kd.R_after (ok := (fun k_ => some k_ ≠ (.slice Ao20 t152.length co20 : Value).ownBlock)) (by (with_reducible repeat (first | apply Kd.R_alloc | apply Kd.R_drewN | apply Kd.R_drew)); exact Kd.R_mono zD.out (fun _ hk => ⟨hk.1.2, hk.2⟩)) hg hat); have n3_ := Aside0.mk (hb); have n4_ := Aside0.mk (ho); clear zA; clear zC; clear zD; clear HB; clear zK; have zA := n0_; have zC := n1_; have zD := n2_; have HB := n3_; have zL := n4_; clear n0_ n1_ n2_ n3_ n4_; clear ho hb hg hat; have zfb : w23.cell? ⟨zB, 0, none⟩ = some (.string a0_0) := (ze zA.out 0).trans rfl; have zgb : w23.cell? ⟨zB, 1, none⟩ = some (.string a0_1) := (ze zA.out 1).trans rfl; have zhb : w23.cell? ⟨zB, 2, none⟩ = some (.int .i64 a0_2) := (ze zA.out 2).trans rfl; have zib : w23.cell? ⟨zB, 3, none⟩ = some (.int .i64 a0_3) := (ze zA.out 3).trans rfl; have zjb : w23.cell? ⟨zB, 4, none⟩ = some (.int .i64 a0_4) := (ze zA.out 4).trans rfl; have zkb : w23.cell? ⟨zB, 5, none⟩ = some (.int .i64 a0_5) := (ze zA.out 5).trans rfl; have zlb : w23.cell? ⟨zB, 6, none⟩ = some (.int .i64 a0_6) := (ze zA.out 6).trans rfl; have zmb := zg zA.out 0; have znb := zg zA.out 1; have zob := zg zA.out 2; have zpb := zg zA.out 3; have zqb := zg zA.out 4; have zrb := zg zA.out 5; have zsb := zg zA.out 6) | ((with_reducible refine zn (f := 141) rfl ?_); refine zx (some 19) rfl rfl Tryd.func141 (by kernel_rfl) rfl #[.int .i64 a0_3, .int .i64 4] rfl (by (try simp only [List.map_toArray, List.map_cons, List.map_nil]); first | done | rfl | (simp only [List.length_drop, List.length_take]; rfl)) ?_; (with_reducible refine (spec_l4Big.calls k a0_3 4 t164 _ A7.out).mono ?_); rintro e w26 ⟨v165, rfl, zG, hb⟩; refine ⟨_, rfl, ?_⟩; have n0_ := Aside0.mk (Kd.R_elder' (by (with_reducible repeat (first | apply Kd.R_alloc | apply Kd.R_drewN | apply Kd.R_drew)); exact zC.out) (Kd.R_base zG) hb); have n1_ := Aside0.mk (Kd.R_elder' (by (with_reducible repeat (first | apply Kd.R_alloc | apply Kd.R_drewN | apply Kd.R_drew)); exact zD.out) (Kd.R_base zG) hb); have n2_ := Aside0.mk (Kd.R_elder' (by (with_reducible repeat (first | apply Kd.R_alloc | apply Kd.R_drewN | apply Kd.R_drew)); exact zL.out) (Kd.R_base zG) hb); have n3_ := Aside0.mk (Kd.R_lower (Kd.R_new' (Kd.R_new' (Kd.R_new' zG (Kd.R_lt (by (with_reducible repeat (first | apply Kd.R_alloc | apply Kd.R_drewN | apply Kd.R_drew)); exact zC.out))) (Kd.R_lt (by (with_reducible repeat (first | apply Kd.R_alloc | apply Kd.R_drewN | apply Kd.R_drew)); exact zD.out))) (Kd.R_lt (by (with_reducible repeat (first | apply Kd.R_alloc | apply Kd.R_drewN | apply Kd.R_drew)); exact zL.out))) (zk (by repeat (first | (with_reducible first | exact HB.out | apply zd | apply zb | apply zc | refine zh ?_ zF.out) | exact HB.out)))); have n4_ := Aside0.mk (zo (g := zB) (o := .cells #[.string a0_0, .string a0_1, .int .i64 a0_2, .int .i64 a0_3, .int .i64 a0_4, .int .i64 a0_5, .int .i64 a0_6] 92 (0, 0)) (by (with_reducible repeat (first | refine zj ?_ _ | refine zl ?_ | refine zi ?_ _)); exact zA.out) hb); have n5_ := Aside0.mk (zm (by repeat (first | (with_reducible first | exact HB.out | apply zd | apply zb | apply zc | refine zh ?_ zF.out) | exact HB.out)) hb); clear zC; clear zD; clear zL; clear zA; clear HB; have zC := n0_; have zD := n1_; have zL := n2_; have zE := n3_; have zA := n4_; have HB := n5_; clear n0_ n1_ n2_ n3_ n4_ n5_; (try clear hb); (try clear hb2); (try clear hk); (try clear hi); (try clear zG); obtain ⟨Ao28, co28, eo28⟩ := Kd.R_slice zE.out; subst eo28) | ((with_reducible refine gate_builtin (b := .append) (xs := #[.tmp 16, .tmp 19]) rfl ?_); at_builtin; refine Kd.R_append_rows (Kd.int .u8) (w0 := w) w.heap.size rfl (.tmp 16) (.tmp 19) 22 5 (.int .u8 0) 1 rfl Tryd.underlying22 info5 rfl (by decide) (by omega) v162 y161 t164 _ _ _ (fun k_ => some k_ ≠ (.slice Ao20 t152.length co20 : Value).ownBlock ∧ some k_ ≠ (.slice Ao24 t158.length co24 : Value).ownBlock ∧ some k_ ≠ (.slice Ao28 t164.length co28 : Value).ownBlock) (fun _ => False) rfl rfl ?aO ?aR (fun _ _ h => h) (fun _ h => h.elim) ?aF ?aB ?aS ?aL ?_; (case aR => repeat (first | exact (Kd.R_reads' zE.out).2.2 | (with_reducible refine Kd.C_alloc ?_ _) | (with_reducible refine Kd.C_drewN ?_ _) | (with_reducible refine Kd.C_drew ?_))); (case aB => exact (by repeat (first | (with_reducible first | exact HB.out | apply zd | apply zb | apply zc | refine zh ?_ zF.out) | exact HB.out))); (case aF => exact (fun k_ hk => ⟨Kd.fresh' (Kd.R_lt (by (with_reducible repeat (first | apply Kd.R_alloc | apply Kd.R_drewN | apply Kd.R_drew)); exact zC.out)) k_ hk, Kd.fresh' (Kd.R_lt (by (with_reducible repeat (first | apply Kd.R_alloc | apply Kd.R_drewN | apply Kd.R_drew)); exact zD.out)) k_ hk, Kd.fresh' (Kd.R_lt (by (with_reducible repeat (first | apply Kd.R_alloc | apply Kd.R_drewN | apply Kd.R_drew)); exact zE.out)) k_ hk⟩)); (case aO => exact (by (with_reducible repeat (first | apply Kd.R_alloc | apply Kd.R_drewN | apply Kd.R_drew)); exact Kd.R_mono zL.out (fun _ hk => ⟨hk.1.1, ⟨hk.1.2, hk.2⟩⟩))); (case aS => exact (zk (by repeat (first | (with_reducible first | exact HB.out | apply zd | apply zb | apply zc | refine zh ?_ zF.out) | exact HB.out)))); (case aL => have := LMc8.out; omega); intro v168 w27 ho hb hg hat; rw [← Ny167.out] at ho; have n0_ := Aside0.mk (zz (g := zB) (o := .cells #[.string a0_0, .string a0_1, .int .i64 a0_2, .int .i64 a0_3, .int .i64 a0_4, .int .i64 a0_5, .int .i64 a0_6] 92 (0, 0)) (by (with_reducible repeat (first | refine zj ?_ _ | refine zl ?_ | refine zi ?_ _)); exact zA.out) hg (Kd.R_ne zL.out zA.out (by decide))); have n1_ := Aside0.mk (Kd.R_after (ok := (fun k_ => some k_ ≠ (.slice Ao24 t158.length co24 : Value).ownBlock ∧ some k_ ≠ (.slice Ao28 t164.length co28 : Value).ownBlock)) (by (with_reducible repeat (first | apply Kd.R_alloc | apply Kd.R_drewN | apply Kd.R_drew)); exact Kd.R_mono zC.out (fun _ hk => ⟨⟨hk.1.1, hk.2⟩, hk.1.2⟩)) hg hat); have n2_ := Aside0.mk (Kd.R_after (ok := (fun k_ => some k_ ≠ (.slice Ao20 t152.length co20 : Value).ownBlock ∧ some k_ ≠ (.slice Ao28 t164.length co28 : Value).ownBlock)) (by (with_reducible repeat (first | apply Kd.R_alloc | apply Kd.R_drewN | apply Kd.R_drew)); exact Kd.R_mono zD.out (fun _ hk => ⟨⟨hk.1.1, hk.2⟩, hk.1.2⟩)) hg hat); have n3_ := Aside0.mk (Kd.R_after (ok := (fun k_ => some k_ ≠ (.slice Ao20 t152.length co20 : Value).ownBlock ∧ some k_ ≠ (.slice Ao24 t158.length co24 : Value).ownBlock)) (by (with_reducible repeat (first | apply Kd.R_alloc | apply Kd.R_drewN | apply Kd.R_drew)); exact Kd.R_mono zE.out (fun _ hk => ⟨⟨hk.1.1.2, hk.1.2⟩, hk.2⟩)) hg hat); have n4_ := Aside0.mk (hb); have n5_ := Aside0.mk (ho); clear zA; clear zC; clear zD; clear zE; clear HB; clear zL; have zA := n0_; have zC := n1_; have zD := n2_; have zE := n3_; have HB := n4_; have zM := n5_; clear n0_ n1_ n2_ n3_ n4_ n5_; clear ho hb hg hat; have ztb : w27.cell? ⟨zB, 0, none⟩ = some (.string a0_0) := (ze zA.out 0).trans rfl; have zub : w27.cell? ⟨zB, 1, none⟩ = some (.string a0_1) := (ze zA.out 1).trans rfl; have zvb : w27.cell? ⟨zB, 2, none⟩ = some (.int .i64 a0_2) := (ze zA.out 2).trans rfl; have zwb : w27.cell? ⟨zB, 3, none⟩ = some (.int .i64 a0_3) := (ze zA.out 3).trans rfl; have zxb : w27.cell? ⟨zB, 4, none⟩ = some (.int .i64 a0_4) := (ze zA.out 4).trans rfl; have zyb : w27.cell? ⟨zB, 5, none⟩ = some (.int .i64 a0_5) := (ze zA.out 5).trans rfl; have zzb : w27.cell? ⟨zB, 6, none⟩ = some (.int .i64 a0_6) := (ze zA.out 6).trans rfl; have zAb := zg zA.out 0; have zBb := zg zA.out 1; have zCb := zg zA.out 2; have zDb := zg zA.out 3; have zEb := zg zA.out 4; have zFb := zg zA.out 5; have zGb := zg zA.out 6) | ((with_reducible refine zn (f := 141) rfl ?_); refine zx (some 24) rfl rfl Tryd.func141 (by kernel_rfl) rfl #[.int .i64 a0_4, .int .i64 4] rfl (by (try simp only [List.map_toArray, List.map_cons, List.map_nil]); first | done | rfl | (simp only [List.length_drop, List.length_take]; rfl)) ?_; (with_reducible refine (spec_l4Big.calls k a0_4 4 t170 _ A9.out).mono ?_); rintro e w30 ⟨v171, rfl, zG, hb⟩; refine ⟨_, rfl, ?_⟩; have n0_ := Aside0.mk (Kd.R_elder' (by (with_reducible repeat (first | apply Kd.R_alloc | apply Kd.R_drewN | apply Kd.R_drew)); exact zC.out) (Kd.R_base zG) hb); have n1_ := Aside0.mk (Kd.R_elder' (by (with_reducible repeat (first | apply Kd.R_alloc | apply Kd.R_drewN | apply Kd.R_drew)); exact zD.out) (Kd.R_base zG) hb); have n2_ := Aside0.mk (Kd.R_elder' (by (with_reducible repeat (first | apply Kd.R_alloc | apply Kd.R_drewN | apply Kd.R_drew)); exact zE.out) (Kd.R_base zG) hb); have n3_ := Aside0.mk (Kd.R_elder' (by (with_reducible repeat (first | apply Kd.R_alloc | apply Kd.R_drewN | apply Kd.R_drew)); exact zM.out) (Kd.R_base zG) hb); have n4_ := Aside0.mk (Kd.R_lower (Kd.R_new' (Kd.R_new' (Kd.R_new' (Kd.R_new' zG (Kd.R_lt (by (with_reducible repeat (first | apply Kd.R_alloc | apply Kd.R_drewN | apply Kd.R_drew)); exact zC.out))) (Kd.R_lt (by (with_reducible repeat (first | apply Kd.R_alloc | apply Kd.R_drewN | apply Kd.R_drew)); exact zD.out))) (Kd.R_lt (by (with_reducible repeat (first | apply Kd.R_alloc | apply Kd.R_drewN | apply Kd.R_drew)); exact zE.out))) (Kd.R_lt (by (with_reducible repeat (first | apply Kd.R_alloc | apply Kd.R_drewN | apply Kd.R_drew)); exact zM.out))) (zk (by repeat (first | (with_reducible first | exact HB.out | apply zd | apply zb | apply zc | refine zh ?_ zF.out) | exact HB.out)))); have n5_ := Aside0.mk (zo (g := zB) (o := .cells #[.string a0_0, .string a0_1, .int .i64 a0_2, .int .i64 a0_3, .int .i64 a0_4, .int .i64 a0_5, .int .i64 a0_6] 92 (0, 0)) (by (with_reducible repeat (first | refine zj ?_ _ | refine zl ?_ | refine zi ?_ _)); exact zA.out) hb); have n6_ := Aside0.mk (zm (by repeat (first | (with_reducible first | exact HB.out | apply zd | apply zb | apply zc | refine zh ?_ zF.out) | exact HB.out)) hb); clear zC; clear zD; clear zE; clear zM; clear zA; clear HB; have zC := n0_; have zD := n1_; have zE := n2_; have zM := n3_; have zH := n4_; have zA := n5_; have HB := n6_; clear n0_ n1_ n2_ n3_ n4_ n5_ n6_; (try clear hb); (try clear hb2); (try clear hk); (try clear hi); (try clear zG); obtain ⟨Ao32, co32, eo32⟩ := Kd.R_slice zH.out; subst eo32) | ((with_reducible refine gate_builtin (b := .append) (xs := #[.tmp 21, .tmp 24]) rfl ?_); at_builtin; refine Kd.R_append_rows (Kd.int .u8) (w0 := w) w.heap.size rfl (.tmp 21) (.tmp 24) 22 5 (.int .u8 0) 1 rfl Tryd.underlying22 info5 rfl (by decide) (by omega) v168 y167 t170 _ _ _ (fun k_ => some k_ ≠ (.slice Ao20 t152.length co20 : Value).ownBlock ∧ some k_ ≠ (.slice Ao24 t158.length co24 : Value).ownBlock ∧ some k_ ≠ (.slice Ao28 t164.length co28 : Value).ownBlock ∧ some k_ ≠ (.slice Ao32 t170.length co32 : Value).ownBlock) (fun _ => False) rfl rfl ?aO ?aR (fun _ _ h => h) (fun _ h => h.elim) ?aF ?aB ?aS ?aL ?_; (case aR => repeat (first | exact (Kd.R_reads' zH.out).2.2 | (with_reducible refine Kd.C_alloc ?_ _) | (with_reducible refine Kd.C_drewN ?_ _) | (with_reducible refine Kd.C_drew ?_))); (case aB => exact (by repeat (first | (with_reducible first | exact HB.out | apply zd | apply zb | apply zc | refine zh ?_ zF.out) | exact HB.out))); (case aF => exact (fun k_ hk => ⟨Kd.fresh' (Kd.R_lt (by (with_reducible repeat (first | apply Kd.R_alloc | apply Kd.R_drewN | apply Kd.R_drew)); exact zC.out)) k_ hk, Kd.fresh' (Kd.R_lt (by (with_reducible repeat (first | apply Kd.R_alloc | apply Kd.R_drewN | apply Kd.R_drew)); exact zD.out)) k_ hk, Kd.fresh' (Kd.R_lt (by (with_reducible repeat (first | apply Kd.R_alloc | apply Kd.R_drewN | apply Kd.R_drew)); exact zE.out)) k_ hk, Kd.fresh' (Kd.R_lt (by (with_reducible repeat (first | apply Kd.R_alloc | apply Kd.R_drewN | apply Kd.R_drew)); exact zH.out)) k_ hk⟩)); (case aO => exact (by (with_reducible repeat (first | apply Kd.R_alloc | apply Kd.R_drewN | apply Kd.R_drew)); exact Kd.R_mono zM.out (fun _ hk => ⟨hk.1.1, ⟨hk.1.2.1, ⟨hk.1.2.2, hk.2⟩⟩⟩))); (case aS => exact (zk (by repeat (first | (with_reducible first | exact HB.out | apply zd | apply zb | apply zc | refine zh ?_ zF.out) | exact HB.out)))); (case aL => have := LMc10.out; omega); intro v174 w31 ho hb hg hat; rw [← Ny173.out] at ho; have n0_ := Aside0.mk (zz (g := zB) (o := .cells #[.string a0_0, .string a0_1, .int .i64 a0_2, .int .i64 a0_3, .int .i64 a0_4, .int .i64 a0_5, .int .i64 a0_6] 92 (0, 0)) (by (with_reducible repeat (first | refine zj ?_ _ | refine zl ?_ | refine zi ?_ _)); exact zA.out) hg (Kd.R_ne zM.out zA.out (by decide))); have n1_ := Aside0.mk (Kd.R_after (ok := (fun k_ => some k_ ≠ (.slice Ao24 t158.length co24 : Value).ownBlock ∧ some k_ ≠ (.slice Ao28 t164.length co28 : Value).ownBlock ∧ some k_ ≠ (.slice Ao32 t170.length co32 : Value).ownBlock)) (by (with_reducible repeat (first | apply Kd.R_alloc | apply Kd.R_drewN | apply Kd.R_drew)); exact Kd.R_mono zC.out (fun _ hk => ⟨⟨hk.1.1.1, ⟨hk.1.1.2, hk.2⟩⟩, hk.1.2⟩)) hg hat); have n2_ := Aside0.mk (Kd.R_after (ok := (fun k_ => some k_ ≠ (.slice Ao20 t152.length co20 : Value).ownBlock ∧ some k_ ≠ (.slice Ao28 t164.length co28 : Value).ownBlock ∧ some k_ ≠ (.slice Ao32 t170.length co32 : Value).ownBlock)) (by (with_reducible repeat (first | apply Kd.R_alloc | apply Kd.R_drewN | apply Kd.R_drew)); exact Kd.R_mono zD.out (fun _ hk => ⟨⟨hk.1.1.1, ⟨hk.1.1.2, hk.2⟩⟩, hk.1.2⟩)) hg hat); have n3_ := Aside0.mk (Kd.R_after (ok := (fun k_ => some k_ ≠ (.slice Ao20 t152.length co20 : Value).ownBlock ∧ some k_ ≠ (.slice Ao24 t158.length co24 : Value).ownBlock ∧ some k_ ≠ (.slice Ao32 t170.length co32 : Value).ownBlock)) (by (with_reducible repeat (first | apply Kd.R_alloc | apply Kd.R_drewN | apply Kd.R_drew)); exact Kd.R_mono zE.out (fun _ hk => ⟨⟨hk.1.1.1, ⟨hk.1.1.2, hk.2⟩⟩, hk.1.2⟩)) hg hat); have n4_ := Aside0.mk (Kd.R_after (ok := (fun k_ => some k_ ≠ (.slice Ao20 t152.length co20 : Value).ownBlock ∧ some k_ ≠ (.slice Ao24 t158.length co24 : Value).ownBlock ∧ some k_ ≠ (.slice Ao28 t164.length co28 : Value).ownBlock)) (by (with_reducible repeat (first | apply Kd.R_alloc | apply Kd.R_drewN | apply Kd.R_drew)); exact Kd.R_mono zH.out (fun _ hk => ⟨⟨hk.1.1.1.2, ⟨hk.1.1.2, hk.1.2⟩⟩, hk.2⟩)) hg hat); have n5_ := Aside0.mk (hb); have n6_ := Aside0.mk (ho); clear zA; clear zC; clear zD; clear zE; clear zH; clear HB; clear zM; have zA := n0_; have zC := n1_; have zD := n2_; have zE := n3_; have zH := n4_; have HB := n5_; have zN := n6_; clear n0_ n1_ n2_ n3_ n4_ n5_ n6_; clear ho hb hg hat; have zHb : w31.cell? ⟨zB, 0, none⟩ = some (.string a0_0) := (ze zA.out 0).trans rfl; have zIb : w31.cell? ⟨zB, 1, none⟩ = some (.string a0_1) := (ze zA.out 1).trans rfl; have zJb : w31.cell? ⟨zB, 2, none⟩ = some (.int .i64 a0_2) := (ze zA.out 2).trans rfl; have zKb : w31.cell? ⟨zB, 3, none⟩ = some (.int .i64 a0_3) := (ze zA.out 3).trans rfl; have zLb : w31.cell? ⟨zB, 4, none⟩ = some (.int .i64 a0_4) := (ze zA.out 4).trans rfl; have zMb : w31.cell? ⟨zB, 5, none⟩ = some (.int .i64 a0_5) := (ze zA.out 5).trans rfl; have zNb : w31.cell? ⟨zB, 6, none⟩ = some (.int .i64 a0_6) := (ze zA.out 6).trans rfl; have zOb := zg zA.out 0; have zPb := zg zA.out 1; have zQb := zg zA.out 2; have zRb := zg zA.out 3; have zSb := zg zA.out 4; have zTb := zg zA.out 5; have zUb := zg zA.out 6) | ((with_reducible refine zn (f := 141) rfl ?_); refine zx (some 29) rfl rfl Tryd.func141 (by kernel_rfl) rfl #[.int .i64 a0_5, .int .i64 4] rfl (by (try simp only [List.map_toArray, List.map_cons, List.map_nil]); first | done | rfl | (simp only [List.length_drop, List.length_take]; rfl)) ?_; (with_reducible refine (spec_l4Big.calls k a0_5 4 t176 _ A11.out).mono ?_); rintro e w34 ⟨v177, rfl, zG, hb⟩; refine ⟨_, rfl, ?_⟩; have n0_ := Aside0.mk (Kd.R_elder' (by (with_reducible repeat (first | apply Kd.R_alloc | apply Kd.R_drewN | apply Kd.R_drew)); exact zC.out) (Kd.R_base zG) hb); have n1_ := Aside0.mk (Kd.R_elder' (by (with_reducible repeat (first | apply Kd.R_alloc | apply Kd.R_drewN | apply Kd.R_drew)); exact zD.out) (Kd.R_base zG) hb); have n2_ := Aside0.mk (Kd.R_elder' (by (with_reducible repeat (first | apply Kd.R_alloc | apply Kd.R_drewN | apply Kd.R_drew)); exact zE.out) (Kd.R_base zG) hb); have n3_ := Aside0.mk (Kd.R_elder' (by (with_reducible repeat (first | apply Kd.R_alloc | apply Kd.R_drewN | apply Kd.R_drew)); exact zH.out) (Kd.R_base zG) hb); have n4_ := Aside0.mk (Kd.R_elder' (by (with_reducible repeat (first | apply Kd.R_alloc | apply Kd.R_drewN | apply Kd.R_drew)); exact zN.out) (Kd.R_base zG) hb); have n5_ := Aside0.mk (Kd.R_lower (Kd.R_new' (Kd.R_new' (Kd.R_new' (Kd.R_new' (Kd.R_new' zG (Kd.R_lt (by (with_reducible repeat (first | apply Kd.R_alloc | apply Kd.R_drewN | apply Kd.R_drew)); exact zC.out))) (Kd.R_lt (by (with_reducible repeat (first | apply Kd.R_alloc | apply Kd.R_drewN | apply Kd.R_drew)); exact zD.out))) (Kd.R_lt (by (with_reducible repeat (first | apply Kd.R_alloc | apply Kd.R_drewN | apply Kd.R_drew)); exact zE.out))) (Kd.R_lt (by (with_reducible repeat (first | apply Kd.R_alloc | apply Kd.R_drewN | apply Kd.R_drew)); exact zH.out))) (Kd.R_lt (by (with_reducible repeat (first | apply Kd.R_alloc | apply Kd.R_drewN | apply Kd.R_drew)); exact zN.out))) (zk (by repeat (first | (with_reducible first | exact HB.out | apply zd | apply zb | apply zc | refine zh ?_ zF.out) | exact HB.out)))); have n6_ := Aside0.mk (zo (g := zB) (o := .cells #[.string a0_0, .string a0_1, .int .i64 a0_2, .int .i64 a0_3, .int .i64 a0_4, .int .i64 a0_5, .int .i64 a0_6] 92 (0, 0)) (by (with_reducible repeat (first | refine zj ?_ _ | refine zl ?_ | refine zi ?_ _)); exact zA.out) hb); have n7_ := Aside0.mk (zm (by repeat (first | (with_reducible first | exact HB.out | apply zd | apply zb | apply zc | refine zh ?_ zF.out) | exact HB.out)) hb); clear zC; clear zD; clear zE; clear zH; clear zN; clear zA; clear HB; have zC := n0_; have zD := n1_; have zE := n2_; have zH := n3_; have zN := n4_; have zI := n5_; have zA := n6_; have HB := n7_; clear n0_ n1_ n2_ n3_ n4_ n5_ n6_ n7_; (try clear hb); (try clear hb2); (try clear hk); (try clear hi); (try clear zG); obtain ⟨Ao36, co36, eo36⟩ := Kd.R_slice zI.out; subst eo36) | ((with_reducible refine gate_builtin (b := .append) (xs := #[.tmp 26, .tmp 29]) rfl ?_); at_builtin; refine Kd.R_append_rows (Kd.int .u8) (w0 := w) w.heap.size rfl (.tmp 26) (.tmp 29) 22 5 (.int .u8 0) 1 rfl Tryd.underlying22 info5 rfl (by decide) (by omega) v174 y173 t176 _ _ _ (fun k_ => some k_ ≠ (.slice Ao20 t152.length co20 : Value).ownBlock ∧ some k_ ≠ (.slice Ao24 t158.length co24 : Value).ownBlock ∧ some k_ ≠ (.slice Ao28 t164.length co28 : Value).ownBlock ∧ some k_ ≠ (.slice Ao32 t170.length co32 : Value).ownBlock ∧ some k_ ≠ (.slice Ao36 t176.length co36 : Value).ownBlock) (fun _ => False) rfl rfl ?aO ?aR (fun _ _ h => h) (fun _ h => h.elim) ?aF ?aB ?aS ?aL ?_; (case aR => repeat (first | exact (Kd.R_reads' zI.out).2.2 | (with_reducible refine Kd.C_alloc ?_ _) | (with_reducible refine Kd.C_drewN ?_ _) | (with_reducible refine Kd.C_drew ?_))); (case aB => exact (by repeat (first | (with_reducible first | exact HB.out | apply zd | apply zb | apply zc | refine zh ?_ zF.out) | exact HB.out))); (case aF => exact (fun k_ hk => ⟨Kd.fresh' (Kd.R_lt (by (with_reducible repeat (first | apply Kd.R_alloc | apply Kd.R_drewN | apply Kd.R_drew)); exact zC.out)) k_ hk, Kd.fresh' (Kd.R_lt (by (with_reducible repeat (first | apply Kd.R_alloc | apply Kd.R_drewN | apply Kd.R_drew)); exact zD.out)) k_ hk, Kd.fresh' (Kd.R_lt (by (with_reducible repeat (first | apply Kd.R_alloc | apply Kd.R_drewN | apply Kd.R_drew)); exact zE.out)) k_ hk, Kd.fresh' (Kd.R_lt (by (with_reducible repeat (first | apply Kd.R_alloc | apply Kd.R_drewN | apply Kd.R_drew)); exact zH.out)) k_ hk, Kd.fresh' (Kd.R_lt (by (with_reducible repeat (first | apply Kd.R_alloc | apply Kd.R_drewN | apply Kd.R_drew)); exact zI.out)) k_ hk⟩)); (case aO => exact (by (with_reducible repeat (first | apply Kd.R_alloc | apply Kd.R_drewN | apply Kd.R_drew)); exact Kd.R_mono zN.out (fun _ hk => ⟨hk.1.1, ⟨hk.1.2.1, ⟨hk.1.2.2.1, ⟨hk.1.2.2.2, hk.2⟩⟩⟩⟩))); (case aS => exact (zk (by repeat (first | (with_reducible first | exact HB.out | apply zd | apply zb | apply zc | refine zh ?_ zF.out) | exact HB.out)))); (case aL => have := LMc12.out; omega); intro v180 w35 ho hb hg hat; rw [← Ny179.out] at ho; have n0_ := Aside0.mk (zz (g := zB) (o := .cells #[.string a0_0, .string a0_1, .int .i64 a0_2, .int .i64 a0_3, .int .i64 a0_4, .int .i64 a0_5, .int .i64 a0_6] 92 (0, 0)) (by (with_reducible repeat (first | refine zj ?_ _ | refine zl ?_ | refine zi ?_ _)); exact zA.out) hg (Kd.R_ne zN.out zA.out (by decide))); have n1_ := Aside0.mk (Kd.R_after (ok := (fun k_ => some k_ ≠ (.slice Ao24 t158.length co24 : Value).ownBlock ∧ some k_ ≠ (.slice Ao28 t164.length co28 : Value).ownBlock ∧ some k_ ≠ (.slice Ao32 t170.length co32 : Value).ownBlock ∧ some k_ ≠ (.slice Ao36 t176.length co36 : Value).ownBlock)) (by (with_reducible repeat (first | apply Kd.R_alloc | apply Kd.R_drewN | apply Kd.R_drew)); exact Kd.R_mono zC.out (fun _ hk => ⟨⟨hk.1.1.1, ⟨hk.1.1.2.1, ⟨hk.1.1.2.2, hk.2⟩⟩⟩, hk.1.2⟩)) hg hat); have n2_ := Aside0.mk (Kd.R_after (ok := (fun k_ => some k_ ≠ (.slice Ao20 t152.length co20 : Value).ownBlock ∧ some k_ ≠ (.slice Ao28 t164.length co28 : Value).ownBlock ∧ some k_ ≠ (.slice Ao32 t170.length co32 : Value).ownBlock ∧ some k_ ≠ (.slice Ao36 t176.length co36 : Value).ownBlock)) (by (with_reducible repeat (first | apply Kd.R_alloc | apply Kd.R_drewN | apply Kd.R_drew)); exact Kd.R_mono zD.out (fun _ hk => ⟨⟨hk.1.1.1, ⟨hk.1.1.2.1, ⟨hk.1.1.2.2, hk.2⟩⟩⟩, hk.1.2⟩)) hg hat); have n3_ := Aside0.mk (Kd.R_after (ok := (fun k_ => some k_ ≠ (.slice Ao20 t152.length co20 : Value).ownBlock ∧ some k_ ≠ (.slice Ao24 t158.length co24 : Value).ownBlock ∧ some k_ ≠ (.slice Ao32 t170.length co32 : Value).ownBlock ∧ some k_ ≠ (.slice Ao36 t176.length co36 : Value).ownBlock)) (by (with_reducible repeat (first | apply Kd.R_alloc | apply Kd.R_drewN | apply Kd.R_drew)); exact Kd.R_mono zE.out (fun _ hk => ⟨⟨hk.1.1.1, ⟨hk.1.1.2.1, ⟨hk.1.1.2.2, hk.2⟩⟩⟩, hk.1.2⟩)) hg hat); have n4_ := Aside0.mk (Kd.R_after (ok := (fun k_ => some k_ ≠ (.slice Ao20 t152.length co20 : Value).ownBlock ∧ some k_ ≠ (.slice Ao24 t158.length co24 : Value).ownBlock ∧ some k_ ≠ (.slice Ao28 t164.length co28 : Value).ownBlock ∧ some k_ ≠ (.slice Ao36 t176.length co36 : Value).ownBlock)) (by (with_reducible repeat (first | apply Kd.R_alloc | apply Kd.R_drewN | apply Kd.R_drew)); exact Kd.R_mono zH.out (fun _ hk => ⟨⟨hk.1.1.1, ⟨hk.1.1.2.1, ⟨hk.1.1.2.2, hk.2⟩⟩⟩, hk.1.2⟩)) hg hat); have n5_ := Aside0.mk (Kd.R_after (ok := (fun k_ => some k_ ≠ (.slice Ao20 t152.length co20 : Value).ownBlock ∧ some k_ ≠ (.slice Ao24 t158.length co24 : Value).ownBlock ∧ some k_ ≠ (.slice Ao28 t164.length co28 : Value).ownBlock ∧ some k_ ≠ (.slice Ao32 t170.length co32 : Value).ownBlock)) (by (with_reducible repeat (first | apply Kd.R_alloc | apply Kd.R_drewN | apply Kd.R_drew)); exact Kd.R_mono zI.out (fun _ hk => ⟨⟨hk.1.1.1.1.2, ⟨hk.1.1.1.2, ⟨hk.1.1.2, hk.1.2⟩⟩⟩, hk.2⟩)) hg hat); have n6_ := Aside0.mk (hb); have n7_ := Aside0.mk (ho); clear zA; clear zC; clear zD; clear zE; clear zH; clear zI; clear HB; clear zN; have zA := n0_; have zC := n1_; have zD := n2_; have zE := n3_; have zH := n4_; have zI := n5_; have HB := n6_; have zO := n7_; clear n0_ n1_ n2_ n3_ n4_ n5_ n6_ n7_; clear ho hb hg hat; have zVb : w35.cell? ⟨zB, 0, none⟩ = some (.string a0_0) := (ze zA.out 0).trans rfl; have zWb : w35.cell? ⟨zB, 1, none⟩ = some (.string a0_1) := (ze zA.out 1).trans rfl; have zXb : w35.cell? ⟨zB, 2, none⟩ = some (.int .i64 a0_2) := (ze zA.out 2).trans rfl; have zYb : w35.cell? ⟨zB, 3, none⟩ = some (.int .i64 a0_3) := (ze zA.out 3).trans rfl; have zZb : w35.cell? ⟨zB, 4, none⟩ = some (.int .i64 a0_4) := (ze zA.out 4).trans rfl; have zac : w35.cell? ⟨zB, 5, none⟩ = some (.int .i64 a0_5) := (ze zA.out 5).trans rfl; have zbc : w35.cell? ⟨zB, 6, none⟩ = some (.int .i64 a0_6) := (ze zA.out 6).trans rfl; have zcc := zg zA.out 0; have zdc := zg zA.out 1; have zec := zg zA.out 2; have zfc := zg zA.out 3; have zgc := zg zA.out 4; have zhc := zg zA.out 5; have zic := zg zA.out 6) | ((with_reducible refine zn (f := 141) rfl ?_); refine zx (some 34) rfl rfl Tryd.func141 (by kernel_rfl) rfl #[.int .i64 a0_6, .int .i64 4] rfl (by (try simp only [List.map_toArray, List.map_cons, List.map_nil]); first | done | rfl | (simp only [List.length_drop, List.length_take]; rfl)) ?_; (with_reducible refine (spec_l4Big.calls k a0_6 4 t182 _ A13.out).mono ?_); rintro e w38 ⟨v183, rfl, zG, hb⟩; refine ⟨_, rfl, ?_⟩; have n0_ := Aside0.mk (Kd.R_elder' (by (with_reducible repeat (first | apply Kd.R_alloc | apply Kd.R_drewN | apply Kd.R_drew)); exact zC.out) (Kd.R_base zG) hb); have n1_ := Aside0.mk (Kd.R_elder' (by (with_reducible repeat (first | apply Kd.R_alloc | apply Kd.R_drewN | apply Kd.R_drew)); exact zD.out) (Kd.R_base zG) hb); have n2_ := Aside0.mk (Kd.R_elder' (by (with_reducible repeat (first | apply Kd.R_alloc | apply Kd.R_drewN | apply Kd.R_drew)); exact zE.out) (Kd.R_base zG) hb); have n3_ := Aside0.mk (Kd.R_elder' (by (with_reducible repeat (first | apply Kd.R_alloc | apply Kd.R_drewN | apply Kd.R_drew)); exact zH.out) (Kd.R_base zG) hb); have n4_ := Aside0.mk (Kd.R_elder' (by (with_reducible repeat (first | apply Kd.R_alloc | apply Kd.R_drewN | apply Kd.R_drew)); exact zI.out) (Kd.R_base zG) hb); have n5_ := Aside0.mk (Kd.R_elder' (by (with_reducible repeat (first | apply Kd.R_alloc | apply Kd.R_drewN | apply Kd.R_drew)); exact zO.out) (Kd.R_base zG) hb); have n6_ := Aside0.mk (Kd.R_lower (Kd.R_new' (Kd.R_new' (Kd.R_new' (Kd.R_new' (Kd.R_new' (Kd.R_new' zG (Kd.R_lt (by (with_reducible repeat (first | apply Kd.R_alloc | apply Kd.R_drewN | apply Kd.R_drew)); exact zC.out))) (Kd.R_lt (by (with_reducible repeat (first | apply Kd.R_alloc | apply Kd.R_drewN | apply Kd.R_drew)); exact zD.out))) (Kd.R_lt (by (with_reducible repeat (first | apply Kd.R_alloc | apply Kd.R_drewN | apply Kd.R_drew)); exact zE.out))) (Kd.R_lt (by (with_reducible repeat (first | apply Kd.R_alloc | apply Kd.R_drewN | apply Kd.R_drew)); exact zH.out))) (Kd.R_lt (by (with_reducible repeat (first | apply Kd.R_alloc | apply Kd.R_drewN | apply Kd.R_drew)); exact zI.out))) (Kd.R_lt (by (with_reducible repeat (first | apply Kd.R_alloc | apply Kd.R_drewN | apply Kd.R_drew)); exact zO.out))) (zk (by repeat (first | (with_reducible first | exact HB.out | apply zd | apply zb | apply zc | refine zh ?_ zF.out) | exact HB.out)))); have n7_ := Aside0.mk (zo (g := zB) (o := .cells #[.string a0_0, .string a0_1, .int .i64 a0_2, .int .i64 a0_3, .int .i64 a0_4, .int .i64 a0_5, .int .i64 a0_6] 92 (0, 0)) (by (with_reducible repeat (first | refine zj ?_ _ | refine zl ?_ | refine zi ?_ _)); exact zA.out) hb); have n8_ := Aside0.mk (zm (by repeat (first | (with_reducible first | exact HB.out | apply zd | apply zb | apply zc | refine zh ?_ zF.out) | exact HB.out)) hb); clear zC; clear zD; clear zE; clear zH; clear zI; clear zO; clear zA; clear HB; have zC := n0_; have zD := n1_; have zE := n2_; have zH := n3_; have zI := n4_; have zO := n5_; have zP := n6_; have zA := n7_; have HB := n8_; clear n0_ n1_ n2_ n3_ n4_ n5_ n6_ n7_ n8_; (try clear hb); (try clear hb2); (try clear hk); (try clear hi); (try clear zG); obtain ⟨Ao40, co40, eo40⟩ := Kd.R_slice zP.out; subst eo40) | ((with_reducible refine gate_builtin (b := .append) (xs := #[.tmp 31, .tmp 34]) rfl ?_); at_builtin; refine Kd.R_append_rows (Kd.int .u8) (w0 := w) w.heap.size rfl (.tmp 31) (.tmp 34) 22 5 (.int .u8 0) 1 rfl Tryd.underlying22 info5 rfl (by decide) (by omega) v180 y179 t182 _ _ _ (fun k_ => some k_ ≠ (.slice Ao20 t152.length co20 : Value).ownBlock ∧ some k_ ≠ (.slice Ao24 t158.length co24 : Value).ownBlock ∧ some k_ ≠ (.slice Ao28 t164.length co28 : Value).ownBlock ∧ some k_ ≠ (.slice Ao32 t170.length co32 : Value).ownBlock ∧ some k_ ≠ (.slice Ao36 t176.length co36 : Value).ownBlock ∧ some k_ ≠ (.slice Ao40 t182.length co40 : Value).ownBlock) (fun _ => False) rfl rfl ?aO ?aR (fun _ _ h => h) (fun _ h => h.elim) ?aF ?aB ?aS ?aL ?_; (case aR => repeat (first | exact (Kd.R_reads' zP.out).2.2 | (with_reducible refine Kd.C_alloc ?_ _) | (with_reducible refine Kd.C_drewN ?_ _) | (with_reducible refine Kd.C_drew ?_))); (case aB => exact (by repeat (first | (with_reducible first | exact HB.out | apply zd | apply zb | apply zc | refine zh ?_ zF.out) | exact HB.out))); (case aF => exact (fun k_ hk => ⟨Kd.fresh' (Kd.R_lt (by (with_reducible repeat (first | apply Kd.R_alloc | apply Kd.R_drewN | apply Kd.R_drew)); exact zC.out)) k_ hk, Kd.fresh' (Kd.R_lt (by (with_reducible repeat (first | apply Kd.R_alloc | apply Kd.R_drewN | apply Kd.R_drew)); exact zD.out)) k_ hk, Kd.fresh' (Kd.R_lt (by (with_reducible repeat (first | apply Kd.R_alloc | apply Kd.R_drewN | apply Kd.R_drew)); exact zE.out)) k_ hk, Kd.fresh' (Kd.R_lt (by (with_reducible repeat (first | apply Kd.R_alloc | apply Kd.R_drewN | apply Kd.R_drew)); exact zH.out)) k_ hk, Kd.fresh' (Kd.R_lt (by (with_reducible repeat (first | apply Kd.R_alloc | apply Kd.R_drewN | apply Kd.R_drew)); exact zI.out)) k_ hk, Kd.fresh' (Kd.R_lt (by (with_reducible repeat (first | apply Kd.R_alloc | apply Kd.R_drewN | apply Kd.R_drew)); exact zP.out)) k_ hk⟩)); (case aO => exact (by (with_reducible repeat (first | apply Kd.R_alloc | apply Kd.R_drewN | apply Kd.R_drew)); exact Kd.R_mono zO.out (fun _ hk => ⟨hk.1.1, ⟨hk.1.2.1, ⟨hk.1.2.2.1, ⟨hk.1.2.2.2.1, ⟨hk.1.2.2.2.2, hk.2⟩⟩⟩⟩⟩))); (case aS => exact (zk (by repeat (first | (with_reducible first | exact HB.out | apply zd | apply zb | apply zc | refine zh ?_ zF.out) | exact HB.out)))); (case aL => have := LMc14.out; omega); intro v186 w39 ho hb hg hat; rw [← Ny185.out] at ho; have n0_ := Aside0.mk (zz (g := zB) (o := .cells #[.string a0_0, .string a0_1, .int .i64 a0_2, .int .i64 a0_3, .int .i64 a0_4, .int .i64 a0_5, .int .i64 a0_6] 92 (0, 0)) (by (with_reducible repeat (first | refine zj ?_ _ | refine zl ?_ | refine zi ?_ _)); exact zA.out) hg (Kd.R_ne zO.out zA.out (by decide))); have n1_ := Aside0.mk (Kd.R_after (ok := (fun k_ => some k_ ≠ (.slice Ao24 t158.length co24 : Value).ownBlock ∧ some k_ ≠ (.slice Ao28 t164.length co28 : Value).ownBlock ∧ some k_ ≠ (.slice Ao32 t170.length co32 : Value).ownBlock ∧ some k_ ≠ (.slice Ao36 t176.length co36 : Value).ownBlock ∧ some k_ ≠ (.slice Ao40 t182.length co40 : Value).ownBlock)) (by (with_reducible repeat (first | apply Kd.R_alloc | apply Kd.R_drewN | apply Kd.R_drew)); exact Kd.R_mono zC.out (fun _ hk => ⟨⟨hk.1.1.1, ⟨hk.1.1.2.1, ⟨hk.1.1.2.2.1, ⟨hk.1.1.2.2.2, hk.2⟩⟩⟩⟩, hk.1.2⟩)) hg hat); have n2_ := Aside0.mk (Kd.R_after (ok := (fun k_ => some k_ ≠ (.slice Ao20 t152.length co20 : Value).ownBlock ∧ some k_ ≠ (.slice Ao28 t164.length co28 : Value).ownBlock ∧ some k_ ≠ (.slice Ao32 t170.length co32 : Value).ownBlock ∧ some k_ ≠ (.slice Ao36 t176.length co36 : Value).ownBlock ∧ some k_ ≠ (.slice Ao40 t182.length co40 : Value).ownBlock)) (by (with_reducible repeat (first | apply Kd.R_alloc | apply Kd.R_drewN | apply Kd.R_drew)); exact Kd.R_mono zD.out (fun _ hk => ⟨⟨hk.1.1.1, ⟨hk.1.1.2.1, ⟨hk.1.1.2.2.1, ⟨hk.1.1.2.2.2, hk.2⟩⟩⟩⟩, hk.1.2⟩)) hg hat); have n3_ := Aside0.mk (Kd.R_after (ok := (fun k_ => some k_ ≠ (.slice Ao20 t152.length co20 : Value).ownBlock ∧ some k_ ≠ (.slice Ao24 t158.length co24 : Value).ownBlock ∧ some k_ ≠ (.slice Ao32 t170.length co32 : Value).ownBlock ∧ some k_ ≠ (.slice Ao36 t176.length co36 : Value).ownBlock ∧ some k_ ≠ (.slice Ao40 t182.length co40 : Value).ownBlock)) (by (with_reducible repeat (first | apply Kd.R_alloc | apply Kd.R_drewN | apply Kd.R_drew)); exact Kd.R_mono zE.out (fun _ hk => ⟨⟨hk.1.1.1, ⟨hk.1.1.2.1, ⟨hk.1.1.2.2.1, ⟨hk.1.1.2.2.2, hk.2⟩⟩⟩⟩, hk.1.2⟩)) hg hat); have n4_ := Aside0.mk (Kd.R_after (ok := (fun k_ => some k_ ≠ (.slice Ao20 t152.length co20 : Value).ownBlock ∧ some k_ ≠ (.slice Ao24 t158.length co24 : Value).ownBlock ∧ some k_ ≠ (.slice Ao28 t164.length co28 : Value).ownBlock ∧ some k_ ≠ (.slice Ao36 t176.length co36 : Value).ownBlock ∧ some k_ ≠ (.slice Ao40 t182.length co40 : Value).ownBlock)) (by (with_reducible repeat (first | apply Kd.R_alloc | apply Kd.R_drewN | apply Kd.R_drew)); exact Kd.R_mono zH.out (fun _ hk => ⟨⟨hk.1.1.1, ⟨hk.1.1.2.1, ⟨hk.1.1.2.2.1, ⟨hk.1.1.2.2.2, hk.2⟩⟩⟩⟩, hk.1.2⟩)) hg hat); have n5_ := Aside0.mk (Kd.R_after (ok := (fun k_ => some k_ ≠ (.slice Ao20 t152.length co20 : Value).ownBlock ∧ some k_ ≠ (.slice Ao24 t158.length co24 : Value).ownBlock ∧ some k_ ≠ (.slice Ao28 t164.length co28 : Value).ownBlock ∧ some k_ ≠ (.slice Ao32 t170.length co32 : Value).ownBlock ∧ some k_ ≠ (.slice Ao40 t182.length co40 : Value).ownBlock)) (by (with_reducible repeat (first | apply Kd.R_alloc | apply Kd.R_drewN | apply Kd.R_drew)); exact Kd.R_mono zI.out (fun _ hk => ⟨⟨hk.1.1.1, ⟨hk.1.1.2.1, ⟨hk.1.1.2.2.1, ⟨hk.1.1.2.2.2, hk.2⟩⟩⟩⟩, hk.1.2⟩)) hg hat); have n6_ := Aside0.mk (Kd.R_after (ok := (fun k_ => some k_ ≠ (.slice Ao20 t152.length co20 : Value).ownBlock ∧ some k_ ≠ (.slice Ao24 t158.length co24 : Value).ownBlock ∧ some k_ ≠ (.slice Ao28 t164.length co28 : Value).ownBlock ∧ some k_ ≠ (.slice Ao32 t170.length co32 : Value).ownBlock ∧ some k_ ≠ (.slice Ao36 t176.length co36 : Value).ownBlock)) (by (with_reducible repeat (first | apply Kd.R_alloc | apply Kd.R_drewN | apply Kd.R_drew)); exact Kd.R_mono zP.out (fun _ hk => ⟨⟨hk.1.1.1.1.1.2, ⟨hk.1.1.1.1.2, ⟨hk.1.1.1.2, ⟨hk.1.1.2, hk.1.2⟩⟩⟩⟩, hk.2⟩)) hg hat); have n7_ := Aside0.mk (hb); have n8_ := Aside0.mk (ho); clear zA; clear zC; clear zD; clear zE; clear zH; clear zI; clear zP; clear HB; clear zO; have zA := n0_; have zC := n1_; have zD := n2_; have zE := n3_; have zH := n4_; have zI := n5_; have zP := n6_; have HB := n7_; have zQ := n8_; clear n0_ n1_ n2_ n3_ n4_ n5_ n6_ n7_ n8_; clear ho hb hg hat))
       go_ret
       exact ⟨_, by first | rfl | (simp [errW_none, errW_some] <;> rfl) | (simp [*, errW_none, errW_some] <;> rfl), by (with_reducible repeat (first | apply Kd.R_alloc | apply Kd.R_drewN | apply Kd.R_drew)); exact Kd.R_mono zQ.out (fun _ hk => trivial), by repeat (first | (with_reducible first | exact HB.out | apply zd | apply zb | apply zc | refine zh ?_ zF.out) | exact HB.out)⟩
      ·rw [if_neg c14] at H
       exact absurd H (by simp)
     ·rw [if_neg c12] at H
      exact absurd H (by simp)
    ·rw [if_neg c10] at H
     exact absurd H (by simp)
   ·rw [if_neg c8] at H
    exact absurd H (by simp)
  ·rw [if_neg c6] at H
   exact absurd H (by simp)
 ·rw [if_neg c4] at H
  exact absurd H (by simp)

def spec_l4Nodes.l0 : Nat → List (S92) → List Int → Int → Option (List Int)
 | 0, _, _, _ => none
 | k + 1, x0, x3, x4 => if x4 < (x0.length : Int) then (if 0 ≤ x4 then ((spec_l4Node.f k ((rd_T92 x0 x4).f0) ((rd_T92 x0 x4).f1) ((rd_T92 x0 x4).f2) ((rd_T92 x0 x4).f3) ((rd_T92 x0 x4).f4) ((rd_T92 x0 x4).f5) ((rd_T92 x0 x4).f6)).bind fun t192 => (if x3.length + t192.length < 140737488355328 then (spec_l4Nodes.l0 k x0 (x3 ++ t192) (wrap64 (x4 + 1))) else (none))) else (none)) else (some x3)
def spec_l4Nodes.f (k : Nat) (l0 : List (S92)) : Option (List Int) := spec_l4Nodes.l0 k l0 (([] : List Int)) 0
theorem spec_l4Nodes.mono_l : ∀ k, (∀ y0 y1 y2, LeO (spec_l4Nodes.l0 k y0 y1 y2) (spec_l4Nodes.l0 (k + 1) y0 y1 y2))
 | 0 => fun _ _ _ r h => by simp [spec_l4Nodes.l0] at h
 | k + 1 => by
  have ih0 := spec_l4Nodes.mono_l k
  ·intro y0 y1 y2
   unfold spec_l4Nodes.l0
   repeat' first
   | (with_reducible exact ih0 _ _ _)
   | (with_reducible exact spec_l4Node.mono _ _ _ _ _ _ _ _)
   | (with_reducible exact LeO.refl _)
   | (with_reducible exact LeO.none _)
   | (with_reducible refine LeO.ite ?_ ?_)
   | (with_reducible refine LeO.bind ?_ (fun _ => ?_))
   | exact ih0 _ _ _
   | exact spec_l4Node.mono _ _ _ _ _ _ _ _
   | exact LeO.none _
   | refine LeO.ite ?_ ?_
   | refine LeO.bind ?_ (fun _ => ?_)
theorem spec_l4Nodes.mono : ∀ a0 k, LeO (spec_l4Nodes.f k a0) (spec_l4Nodes.f (k + 1) a0) := by
 intro a0 k
 have ih0 := spec_l4Nodes.mono_l k
 unfold spec_l4Nodes.f
 repeat' first
   | (with_reducible exact ih0 _ _ _)
   | (with_reducible exact spec_l4Node.mono _ _ _ _ _ _ _ _)
   | (with_reducible exact LeO.refl _)
   | (with_reducible exact LeO.none _)
   | (with_reducible refine LeO.ite ?_ ?_)
   | (with_reducible refine LeO.bind ?_ (fun _ => ?_))
   | exact ih0 _ _ _
   | exact spec_l4Node.mono _ _ _ _ _ _ _ _
   | exact LeO.none _
   | refine LeO.ite ?_ ?_
   | refine LeO.bind ?_ (fun _ => ?_)
set_option maxHeartbeats 8000000 in
set_option maxRecDepth 100000 in
theorem spec_l4Nodes.calls (k : Nat) (A0 : Option Addr) (c0 : Nat) (l0 : List (S92)) (r : List Int) (w : World) (hr0 : Kd.C k92 w A0 l0.length l0) (hc0 : l0.length ≤ c0) (h : spec_l4Nodes.f k l0 = some r) :
  Calls Tryd.prog 139 #[.slice A0 l0.length c0] w fun e w' => ∃ v0_ : Value, e = .returned (v0_) ∧ Kd.R (Kd.int .u8) 5 w' w.heap.size (fun _ => True) v0_ r ∧ Below w.heap.size w w' := by
 have hu92 := Tryd.underlying92
 have HR0 := Aside0.mk hr0
 have HC0 := Aside0.mk hc0
 clear hr0 hc0
 have HB := Aside0.mk (Below.refl w.heap.size w)
 have H : (spec_l4Nodes.l0 k l0 (([] : List Int)) 0) = some r := h
 clear h
 obtain ⟨y188, hy188⟩ : ∃ y_ : List Int, y_ = (([] : List Int)) := ⟨_, rfl⟩
 replace H : (spec_l4Nodes.l0 k l0 y188 0) = some r := by first | (rw [hy188]; with_reducible exact H) | (have H2_ := (Option.bind_some _ _).symm.trans H; rw [hy188]; with_reducible exact H2_) | (have H2_ := (Option.bind_some _ _).symm.trans H; with_reducible exact H2_) | with_reducible exact H | (rw [hy188]; exact H) | exact H
 have Ny188 := Aside0.mk hy188
 clear hy188
 have H' := Aside0.mk H
 clear H
 go_enter Tryd.func139, Tryd.ntmps139
 go_wp2_with (first | ((with_reducible refine zr (N := 5) rfl ?_); refine Kd.R_lit (Kd.int .u8) _ 5 ?hg (N := 5) ?hd (xs := ([] : List Int)) (inner := []) (ok := fun _ => True) (okp := fun _ => True) ?hr ?hp (fun _ hk => hk) trivial (Below.refl _ _) (Nat.le_refl _) (by simp) ?_; (case hd => rfl); (case hg => rfl); (case hr => first | (go_simp; done) | (go_simp; rfl)); (case hp => exact (Reps.none _ _)); intro v189 w2 zC hb hg_ hnew_; clear hg_ hnew_; (first | rw [← Ny188.out] at zC | (simp only [Int.reduceToNat] at zC; rw [← Ny188.out] at zC)); have n0_ := Aside0.mk (Kd.R_lower zC (zk (by repeat (first | (with_reducible first | exact HB.out | apply zd | apply zb | apply zc) | exact HB.out)))); have n1_ := Aside0.mk (zm (by repeat (first | (with_reducible first | exact HB.out | apply zd | apply zb | apply zc) | exact HB.out)) hb); clear HB; have zE := n0_; have HB := n1_; clear n0_ n1_; clear hb zC))
 go_loopg [3, 4] k (fun kq v3 v4 w' => ∃ (x3_1 : List Int) (x4_1 : Int), v4 = .int .i64 x4_1 ∧ Aside0 (spec_l4Nodes.l0 kq l0 x3_1 x4_1 = some r) ∧ Aside0 (kq ≤ k) ∧ Aside0 (Kd.R (Kd.int .u8) 5 w' w.heap.size (fun _ => True) v3 x3_1) ∧ Aside0 (Below w.heap.size w w'))
 case atStart => exact ⟨(y188), (0), (by first | rfl | (simp; done) | (simp [*]; done)), H', ⟨Nat.le_refl _⟩, ⟨by (with_reducible repeat (first | apply Kd.R_alloc | apply Kd.R_drewN | apply Kd.R_drew)); exact zE.out⟩, ⟨by repeat (first | (with_reducible first | exact HB.out | apply zd | apply zb | apply zc) | exact HB.out)⟩⟩
 case round =>
  clear H'
  try clear c1
  try clear p2
  obtain ⟨x3_1, x4_1, rfl, HA, HK1, zB, HB⟩ := hrel
  cases gk with
  | zero => exact absurd HA.out (by simp [spec_l4Nodes.l0])
  | succ k1 =>
   have H := HA.out
   clear HA
   simp only [spec_l4Nodes.l0] at H
   by_cases c4 : x4_1 < (l0.length : Int)
   ·rw [if_pos c4] at H
    have c4b0 : decide (x4_1 < (l0.length : Int)) = true := decide_eq_true c4
    clear c4
    by_cases c5 : 0 ≤ x4_1
    ·rw [if_pos c5] at H
     have c5b0 : decide (0 ≤ x4_1) = true := decide_eq_true c5
     clear c5
     replace H := Option.bind_eq_some_iff.mp H
     obtain ⟨t192, A60, H⟩ := H
     replace H : (if x3_1.length + t192.length < 140737488355328 then (spec_l4Nodes.l0 k1 l0 (x3_1 ++ t192) (wrap64 (x4_1 + 1))) else (none)) = some r := H
     have A6 := Aside0.mk A60
     clear A60
     by_cases c7 : x3_1.length + t192.length < 140737488355328
     ·rw [if_pos c7] at H
      have LMc7 := Aside0.mk c7
      clear c7
      obtain ⟨y195, hy195⟩ : ∃ y_ : List Int, y_ = (x3_1 ++ t192) := ⟨_, rfl⟩
      replace H : (spec_l4Nodes.l0 k1 l0 y195 (wrap64 (x4_1 + 1))) = some r := by first | (rw [hy195]; with_reducible exact H) | (have H2_ := (Option.bind_some _ _).symm.trans H; rw [hy195]; with_reducible exact H2_) | (have H2_ := (Option.bind_some _ _).symm.trans H; with_reducible exact H2_) | with_reducible exact H | (rw [hy195]; exact H) | exact H
      have Ny195 := Aside0.mk hy195
      clear hy195
      have H' := Aside0.mk H
      clear H
      have p191 : 0 ≤ (x4_1 : Int) := of_decide_eq_true (by first | (with_reducible assumption) | assumption)
      have q191 : x4_1 < (l0.length : Int) := of_decide_eq_true (by first | (with_reducible assumption) | assumption)
      obtain ⟨ad191, e191, hx191_0, hx191_1, hx191_2, hx191_3, hx191_4, hx191_5, hx191_6⟩ := at_T92 HR0.out x4_1 p191 q191
      cases e191
      replace hx191_0 := zf HB.out hx191_0
      replace hx191_1 := zf HB.out hx191_1
      replace hx191_2 := zf HB.out hx191_2
      replace hx191_3 := zf HB.out hx191_3
      replace hx191_4 := zf HB.out hx191_4
      replace hx191_5 := zf HB.out hx191_5
      replace hx191_6 := zf HB.out hx191_6
      replace p191 := eq_true p191
      replace q191 := eq_true q191
      go_wp2_with (first | ((with_reducible refine zn (f := 186) rfl ?_); refine zx (some 17) rfl rfl Tryd.func186 (by kernel_rfl) rfl #[.agg #[.string ((rd_T92 l0 x4_1).f0), .string ((rd_T92 l0 x4_1).f1), .int .i64 ((rd_T92 l0 x4_1).f2), .int .i64 ((rd_T92 l0 x4_1).f3), .int .i64 ((rd_T92 l0 x4_1).f4), .int .i64 ((rd_T92 l0 x4_1).f5), .int .i64 ((rd_T92 l0 x4_1).f6)]] rfl (by (try simp only [List.map_toArray, List.map_cons, List.map_nil]); first | done | rfl | (simp only [List.length_drop, List.length_take]; rfl)) ?_; (with_reducible refine (spec_l4Node.calls k1 ((rd_T92 l0 x4_1).f0) ((rd_T92 l0 x4_1).f1) ((rd_T92 l0 x4_1).f2) ((rd_T92 l0 x4_1).f3) ((rd_T92 l0 x4_1).f4) ((rd_T92 l0 x4_1).f5) ((rd_T92 l0 x4_1).f6) t192 _ A6.out).mono ?_); rintro e w8 ⟨v193, rfl, zD, hb⟩; refine ⟨_, rfl, ?_⟩; have n0_ := Aside0.mk (Kd.R_elder' (by (with_reducible repeat (first | apply Kd.R_alloc | apply Kd.R_drewN | apply Kd.R_drew)); exact zB.out) (Kd.R_base zD) hb); have n1_ := Aside0.mk (Kd.R_lower (Kd.R_new' zD (Kd.R_lt (by (with_reducible repeat (first | apply Kd.R_alloc | apply Kd.R_drewN | apply Kd.R_drew)); exact zB.out))) (zk (by repeat (first | (with_reducible first | exact HB.out | apply zd | apply zb | apply zc) | exact HB.out)))); have n2_ := Aside0.mk (zm (by repeat (first | (with_reducible first | exact HB.out | apply zd | apply zb | apply zc) | exact HB.out)) hb); clear zB; clear HB; have zB := n0_; have zA := n1_; have HB := n2_; clear n0_ n1_ n2_; (try clear hb); (try clear hb2); (try clear hk); (try clear hi); (try clear zD); obtain ⟨Ao10, co10, eo10⟩ := Kd.R_slice zA.out; subst eo10) | ((with_reducible refine gate_builtin (b := .append) (xs := #[.tmp 12, .tmp 17]) rfl ?_); at_builtin; refine Kd.R_append_rows (Kd.int .u8) (w0 := w) w.heap.size rfl (.tmp 12) (.tmp 17) 22 5 (.int .u8 0) 1 rfl Tryd.underlying22 info5 rfl (by decide) (by omega) u3 x3_1 t192 _ _ _ (fun k_ => some k_ ≠ (.slice Ao10 t192.length co10 : Value).ownBlock) (fun _ => False) rfl rfl ?aO ?aR (fun _ _ h => h) (fun _ h => h.elim) ?aF ?aB ?aS ?aL ?_; (case aR => repeat (first | exact (Kd.R_reads' zA.out).2.2 | (with_reducible refine Kd.C_alloc ?_ _) | (with_reducible refine Kd.C_drewN ?_ _) | (with_reducible refine Kd.C_drew ?_))); (case aB => exact (by repeat (first | (with_reducible first | exact HB.out | apply zd | apply zb | apply zc) | exact HB.out))); (case aF => exact (fun k_ hk => Kd.fresh' (Kd.R_lt (by (with_reducible repeat (first | apply Kd.R_alloc | apply Kd.R_drewN | apply Kd.R_drew)); exact zA.out)) k_ hk)); (case aO => exact (by (with_reducible repeat (first | apply Kd.R_alloc | apply Kd.R_drewN | apply Kd.R_drew)); exact Kd.R_mono zB.out (fun _ hk => hk.2))); (case aS => exact (zk (by repeat (first | (with_reducible first | exact HB.out | apply zd | apply zb | apply zc) | exact HB.out)))); (case aL => have := LMc7.out; omega); intro v196 w9 ho hb hg hat; rw [← Ny195.out] at ho; have n0_ := Aside0.mk (Kd.R_after (ok := (fun _ => True)) (by (with_reducible repeat (first | apply Kd.R_alloc | apply Kd.R_drewN | apply Kd.R_drew)); exact zA.out) hg hat); have n1_ := Aside0.mk (hb); have n2_ := Aside0.mk (ho); clear zA; clear HB; clear zB; have zA := n0_; have HB := n1_; have zF := n2_; clear n0_ n1_ n2_; clear ho hb hg hat))
      go_roundg k1
      case measure => have := HK1.out; omega
      case rel => exact ⟨(y195), (wrap64 (x4_1 + 1)), (by first | rfl | (simp; done) | (simp [*]; done)), H', ⟨by have := HK1.out; omega⟩, ⟨by (with_reducible repeat (first | apply Kd.R_alloc | apply Kd.R_drewN | apply Kd.R_drew)); exact Kd.R_mono zF.out (fun _ hk => trivial)⟩, ⟨by repeat (first | (with_reducible first | exact HB.out | apply zd | apply zb | apply zc) | exact HB.out)⟩⟩
     ·rw [if_neg c7] at H
      exact absurd H (by simp)
    ·rw [if_neg c5] at H
     exact absurd H (by simp)
   ·rw [if_neg c4] at H
    have c4b0 : decide (x4_1 < (l0.length : Int)) = false := decide_eq_false c4
    clear c4
    obtain rfl := Option.some.inj H
    go_wp2
    go_ret
    exact ⟨_, by first | rfl | (simp [errW_none, errW_some] <;> rfl) | (simp [*, errW_none, errW_some] <;> rfl), by (with_reducible repeat (first | apply Kd.R_alloc | apply Kd.R_drewN | apply Kd.R_drew)); exact zB.out, by repeat (first | (with_reducible first | exact HB.out | apply zd | apply zb | apply zc) | exact HB.out)⟩

def spec_EncodeTree.f (k : Nat) (l0_0 : List (S92)) : Option (List Int) := (spec_ValidTree.f k l0_0).bind fun t199 => (if t199 = true then ((spec_l4Nodes.f k l0_0).bind fun t200 => (some t200)) else (some (([] : List Int))))
theorem spec_EncodeTree.mono : ∀ a0 k, LeO (spec_EncodeTree.f k a0) (spec_EncodeTree.f (k + 1) a0) := by
 intro a0 k
 unfold spec_EncodeTree.f
 repeat' first
   | (with_reducible exact spec_ValidTree.mono _ _)
   | (with_reducible exact spec_l4Nodes.mono _ _)
   | (with_reducible exact LeO.refl _)
   | (with_reducible exact LeO.none _)
   | (with_reducible refine LeO.ite ?_ ?_)
   | (with_reducible refine LeO.bind ?_ (fun _ => ?_))
   | exact spec_ValidTree.mono _ _
   | exact spec_l4Nodes.mono _ _
   | exact LeO.none _
   | refine LeO.ite ?_ ?_
   | refine LeO.bind ?_ (fun _ => ?_)
set_option maxHeartbeats 8000000 in
set_option maxRecDepth 100000 in
theorem spec_EncodeTree.calls (k : Nat) (A0_0 : Option Addr) (c0_0 : Nat) (l0_0 : List (S92)) (r : List Int) (w : World) (hr0_0 : Kd.C k92 w A0_0 l0_0.length l0_0) (hc0_0 : l0_0.length ≤ c0_0) (h : spec_EncodeTree.f k l0_0 = some r) :
  Calls Tryd.prog 74 #[.agg #[.slice A0_0 l0_0.length c0_0]] w fun e w' => ∃ v0_ : Value, e = .returned (v0_) ∧ Kd.R (Kd.int .u8) 5 w' w.heap.size (fun _ => True) v0_ r ∧ Below w.heap.size w w' := by
 have hu25 := Tryd.underlying25
 have HR0_0 := Aside0.mk hr0_0
 have HC0_0 := Aside0.mk hc0_0
 clear hr0_0 hc0_0
 have HB := Aside0.mk (Below.refl w.heap.size w)
 have H : ((spec_ValidTree.f k l0_0).bind fun t199 => (if t199 = true then ((spec_l4Nodes.f k l0_0).bind fun t200 => (some t200)) else (some (([] : List Int))))) = some r := h
 clear h
 replace H := Option.bind_eq_some_iff.mp H
 obtain ⟨t199, A20, H⟩ := H
 replace H : (if t199 = true then ((spec_l4Nodes.f k l0_0).bind fun t200 => (some t200)) else (some (([] : List Int)))) = some r := H
 have A2 := Aside0.mk A20
 clear A20
 by_cases c3 : t199 = true
 ·subst c3
  have H1 : ((spec_l4Nodes.f k l0_0).bind fun t200 => (some t200)) = some r := by rw [if_pos rfl] at H; exact H
  clear H
  have H := H1
  clear H1
  replace H := Option.bind_eq_some_iff.mp H
  obtain ⟨t200, A40, H⟩ := H
  replace H : (some t200) = some r := H
  have A4 := Aside0.mk A40
  clear A40
  obtain rfl := Option.some.inj H
  go_enter Tryd.func74, Tryd.ntmps74
  go_wp2_with (first | ((with_reducible refine zr (N := 1) rfl ?_); refine zu ?hg (N := 1) ?hd (cs := #[.slice A0_0 l0_0.length c0_0]) (t := 25) ?hr ?_; (case hd => rfl); (case hg => rfl); (case hr => first | (go_simp; done) | (go_simp; rfl)); intro zB hg w5 hbox hb; have n0_ := Aside0.mk (zm (by repeat (first | (with_reducible first | exact HB.out | apply zd | apply zb | apply zc) | exact HB.out)) hb); have n1_ := Aside0.mk (hbox); have n2_ := Aside0.mk ((by rw [hg]; exact (zk (by repeat (first | (with_reducible first | exact HB.out | apply zd | apply zb | apply zc) | exact HB.out))) : w.heap.size ≤ zB)); have n3_ := Aside0.mk ((by rw [hg]; exact (zk (by repeat (first | (with_reducible first | exact HB.out | apply zd | apply zb | apply zc) | exact HB.out))) : w.heap.size ≤ zB)); clear HB; have HB := n0_; have zA := n1_; have GW198 := n2_; have zC := n3_; clear n0_ n1_ n2_ n3_; clear hb hbox hg; have zJ : w5.cell? ⟨zB, 0, none⟩ = some (.slice A0_0 l0_0.length c0_0) := (ze zA.out 0).trans rfl; have zK := zg zA.out 0) | ((with_reducible refine zn (f := 41) rfl ?_); refine zx (some 4) rfl rfl Tryd.func41 (by kernel_rfl) rfl #[.agg #[.slice A0_0 l0_0.length c0_0]] rfl (by (try simp only [List.map_toArray, List.map_cons, List.map_nil]); first | done | rfl | (simp only [List.length_drop, List.length_take]; rfl)) ?_; (with_reducible refine (spec_ValidTree.calls k _ _ l0_0 true _ ?side1 ?side2 A2.out).mono ?_); (case side1 => repeat (first | exact (Kd.C_below HR0_0.out HB.out) | (with_reducible refine Kd.C_alloc ?_ _) | (with_reducible refine Kd.C_drewN ?_ _) | (with_reducible refine Kd.C_drew ?_))); (case side2 => exact HC0_0.out); rintro e w7 ⟨rfl, hb⟩; refine ⟨_, rfl, ?_⟩; have n0_ := Aside0.mk (zo (g := zB) (o := .cells #[.slice A0_0 l0_0.length c0_0] 25 (0, 0)) (by (with_reducible repeat (first | refine zj ?_ _ | refine zl ?_ | refine zi ?_ _)); exact zA.out) hb); have n1_ := Aside0.mk (zm (by repeat (first | (with_reducible first | exact HB.out | apply zd | apply zb | apply zc | refine zh ?_ zC.out) | exact HB.out)) hb); clear zA; clear HB; have zA := n0_; have HB := n1_; clear n0_ n1_; (try clear hb); (try clear hb2); (try clear hk); (try clear hi); have zL : w7.cell? ⟨zB, 0, none⟩ = some (.slice A0_0 l0_0.length c0_0) := (ze zA.out 0).trans rfl; have zM := zg zA.out 0) | ((with_reducible refine zn (f := 139) rfl ?_); refine zx (some 9) rfl rfl Tryd.func139 (by kernel_rfl) rfl #[.slice A0_0 l0_0.length c0_0] rfl (by (try simp only [List.map_toArray, List.map_cons, List.map_nil]); first | done | rfl | (simp only [List.length_drop, List.length_take]; rfl)) ?_; (with_reducible refine (spec_l4Nodes.calls k _ _ l0_0 t200 _ ?side1 ?side2 A4.out).mono ?_); (case side1 => repeat (first | exact (Kd.C_below HR0_0.out HB.out) | (with_reducible refine Kd.C_alloc ?_ _) | (with_reducible refine Kd.C_drewN ?_ _) | (with_reducible refine Kd.C_drew ?_))); (case side2 => exact HC0_0.out); rintro e w9 ⟨v201, rfl, zG, hb⟩; refine ⟨_, rfl, ?_⟩; have n0_ := Aside0.mk (Kd.R_lower zG (zk (by repeat (first | (with_reducible first | exact HB.out | apply zd | apply zb | apply zc | refine zh ?_ zC.out) | exact HB.out)))); have n1_ := Aside0.mk (zo (g := zB) (o := .cells #[.slice A0_0 l0_0.length c0_0] 25 (0, 0)) (by (with_reducible repeat (first | refine zj ?_ _ | refine zl ?_ | refine zi ?_ _)); exact zA.out) hb); have n2_ := Aside0.mk (zm (by repeat (first | (with_reducible first | exact HB.out | apply zd | apply zb | apply zc | refine zh ?_ zC.out) | exact HB.out)) hb); clear zA; clear HB; have zE := n0_; have zA := n1_; have HB := n2_; clear n0_ n1_ n2_; (try clear hb); (try clear hb2); (try clear hk); (try clear hi); (try clear zG)))
  go_ret
  exact ⟨_, by first | rfl | (simp [errW_none, errW_some] <;> rfl) | (simp [*, errW_none, errW_some] <;> rfl), by (with_reducible repeat (first | apply Kd.R_alloc | apply Kd.R_drewN | apply Kd.R_drew)); exact zE.out, by repeat (first | (with_reducible first | exact HB.out | apply zd | apply zb | apply zc | refine zh ?_ zC.out) | exact HB.out)⟩
 ·replace c3 := Bool.eq_false_iff.mpr c3
  subst c3
  have H1 : (some (([] : List Int))) = some r := by rw [if_neg (show ¬ (false = true) by decide)] at H; exact H
  clear H
  have H := H1
  clear H1
  obtain ⟨y203, hy203⟩ : ∃ y_ : List Int, y_ = (([] : List Int)) := ⟨_, rfl⟩
  replace H : (some y203) = some r := by first | (rw [hy203]; with_reducible exact H) | (have H2_ := (Option.bind_some _ _).symm.trans H; rw [hy203]; with_reducible exact H2_) | (have H2_ := (Option.bind_some _ _).symm.trans H; with_reducible exact H2_) | with_reducible exact H | (rw [hy203]; exact H) | exact H
  have Ny203 := Aside0.mk hy203
  clear hy203
  obtain rfl := Option.some.inj H
  go_enter Tryd.func74, Tryd.ntmps74
  go_wp2_with (first | ((with_reducible refine zr (N := 1) rfl ?_); refine zu ?hg (N := 1) ?hd (cs := #[.slice A0_0 l0_0.length c0_0]) (t := 25) ?hr ?_; (case hd => rfl); (case hg => rfl); (case hr => first | (go_simp; done) | (go_simp; rfl)); intro zB hg w10 hbox hb; have n0_ := Aside0.mk (zm (by repeat (first | (with_reducible first | exact HB.out | apply zd | apply zb | apply zc) | exact HB.out)) hb); have n1_ := Aside0.mk (hbox); have n2_ := Aside0.mk ((by rw [hg]; exact (zk (by repeat (first | (with_reducible first | exact HB.out | apply zd | apply zb | apply zc) | exact HB.out))) : w.heap.size ≤ zB)); have n3_ := Aside0.mk ((by rw [hg]; exact (zk (by repeat (first | (with_reducible first | exact HB.out | apply zd | apply zb | apply zc) | exact HB.out))) : w.heap.size ≤ zB)); clear HB; have HB := n0_; have zA := n1_; have GW198 := n2_; have zC := n3_; clear n0_ n1_ n2_ n3_; clear hb hbox hg; have zH : w10.cell? ⟨zB, 0, none⟩ = some (.slice A0_0 l0_0.length c0_0) := (ze zA.out 0).trans rfl; have zI := zg zA.out 0) | ((with_reducible refine zn (f := 41) rfl ?_); refine zx (some 4) rfl rfl Tryd.func41 (by kernel_rfl) rfl #[.agg #[.slice A0_0 l0_0.length c0_0]] rfl (by (try simp only [List.map_toArray, List.map_cons, List.map_nil]); first | done | rfl | (simp only [List.length_drop, List.length_take]; rfl)) ?_; (with_reducible refine (spec_ValidTree.calls k _ _ l0_0 false _ ?side1 ?side2 A2.out).mono ?_); (case side1 => repeat (first | exact (Kd.C_below HR0_0.out HB.out) | (with_reducible refine Kd.C_alloc ?_ _) | (with_reducible refine Kd.C_drewN ?_ _) | (with_reducible refine Kd.C_drew ?_))); (case side2 => exact HC0_0.out); rintro e w12 ⟨rfl, hb⟩; refine ⟨_, rfl, ?_⟩; have n0_ := Aside0.mk (zo (g := zB) (o := .cells #[.slice A0_0 l0_0.length c0_0] 25 (0, 0)) (by (with_reducible repeat (first | refine zj ?_ _ | refine zl ?_ | refine zi ?_ _)); exact zA.out) hb); have n1_ := Aside0.mk (zm (by repeat (first | (with_reducible first | exact HB.out | apply zd | apply zb | apply zc | refine zh ?_ zC.out) | exact HB.out)) hb); clear zA; clear HB; have zA := n0_; have HB := n1_; clear n0_ n1_; (try clear hb); (try clear hb2); (try clear hk); (try clear hi)) | ((with_reducible refine zr (N := 6) rfl ?_); refine Kd.R_lit (Kd.int .u8) _ 5 ?hg (N := 6) ?hd (xs := ([] : List Int)) (inner := []) (ok := fun _ => True) (okp := fun _ => True) ?hr ?hp (fun _ hk => hk) trivial (Below.refl _ _) (Nat.le_refl _) (by simp) ?_; (case hd => rfl); (case hg => rfl); (case hr => first | (go_simp; done) | (go_simp; rfl)); (case hp => exact (Reps.none _ _)); intro v204 w13 zD hb hg_ hnew_; clear hg_ hnew_; (first | rw [← Ny203.out] at zD | (simp only [Int.reduceToNat] at zD; rw [← Ny203.out] at zD)); have n0_ := Aside0.mk (Kd.R_lower zD (zk (by repeat (first | (with_reducible first | exact HB.out | apply zd | apply zb | apply zc | refine zh ?_ zC.out) | exact HB.out)))); have n1_ := Aside0.mk (zo (g := zB) (o := .cells #[.slice A0_0 l0_0.length c0_0] 25 (0, 0)) (by (with_reducible repeat (first | refine zj ?_ _ | refine zl ?_ | refine zi ?_ _)); exact zA.out) hb); have n2_ := Aside0.mk (zm (by repeat (first | (with_reducible first | exact HB.out | apply zd | apply zb | apply zc | refine zh ?_ zC.out) | exact HB.out)) hb); clear zA; clear HB; have zF := n0_; have zA := n1_; have HB := n2_; clear n0_ n1_ n2_; clear hb zD))
  go_ret
  exact ⟨_, by first | rfl | (simp [errW_none, errW_some] <;> rfl) | (simp [*, errW_none, errW_some] <;> rfl), by (with_reducible repeat (first | apply Kd.R_alloc | apply Kd.R_drewN | apply Kd.R_drew)); exact zF.out, by repeat (first | (with_reducible first | exact HB.out | apply zd | apply zb | apply zc | refine zh ?_ zC.out) | exact HB.out)⟩

def spec_NewTree.f  : Option ((List (S92))) := some (([(⟨(⟨#[47]⟩ : ByteArray), (⟨#[]⟩ : ByteArray), 0, 0, 0, 0, 0⟩ : S92)] : List (S92)))
set_option maxHeartbeats 8000000 in
set_option maxRecDepth 100000 in
theorem spec_NewTree.calls  (r : List (S92)) (w : World) (h : spec_NewTree.f  = some r) :
  Calls Tryd.prog 75 #[] w fun e w' => ∃ v0_ : Value, e = .returned (.agg #[v0_]) ∧ Kd.R k92 92 w' w.heap.size (fun _ => True) v0_ r ∧ Below w.heap.size w w' := by
 have hu25 := Tryd.underlying25
 have hu92 := Tryd.underlying92
 have HB := Aside0.mk (Below.refl w.heap.size w)
 have H : (some (([(⟨(⟨#[47]⟩ : ByteArray), (⟨#[]⟩ : ByteArray), 0, 0, 0, 0, 0⟩ : S92)] : List (S92)))) = some r := h
 clear h
 obtain ⟨y207, hy207⟩ : ∃ y_ : List (S92), y_ = (([(⟨(⟨#[47]⟩ : ByteArray), (⟨#[]⟩ : ByteArray), 0, 0, 0, 0, 0⟩ : S92)] : List (S92))) := ⟨_, rfl⟩
 replace H : (some y207) = some r := by first | (rw [hy207]; with_reducible exact H) | (have H2_ := (Option.bind_some _ _).symm.trans H; rw [hy207]; with_reducible exact H2_) | (have H2_ := (Option.bind_some _ _).symm.trans H; with_reducible exact H2_) | with_reducible exact H | (rw [hy207]; exact H) | exact H
 have Ny207 := Aside0.mk hy207
 clear hy207
 obtain rfl := Option.some.inj H
 go_enter Tryd.func75, Tryd.ntmps75
 go_wp2_with (first | ((with_reducible refine zr (N := 0) rfl ?_); refine zu ?hg (N := 0) ?hd (cs := #[.slice none 0 0]) (t := 25) ?hr ?_; (case hd => rfl); (case hg => rfl); (case hr => first | (go_simp; done) | (go_simp; rfl)); intro zB hg w1 hbox hb; have n0_ := Aside0.mk (zm (by repeat (first | (with_reducible first | exact HB.out | apply zd | apply zb | apply zc) | exact HB.out)) hb); have n1_ := Aside0.mk (hbox); have n2_ := Aside0.mk ((by rw [hg]; exact (zk (by repeat (first | (with_reducible first | exact HB.out | apply zd | apply zb | apply zc) | exact HB.out))) : w.heap.size ≤ zB)); have n3_ := Aside0.mk ((by rw [hg]; exact (zk (by repeat (first | (with_reducible first | exact HB.out | apply zd | apply zb | apply zc) | exact HB.out))) : w.heap.size ≤ zB)); clear HB; have HB := n0_; have zA := n1_; have GW206 := n2_; have zC := n3_; clear n0_ n1_ n2_ n3_; clear hb hbox hg) | ((with_reducible refine zr (N := 2) rfl ?_); refine Kd.R_lit k92 _ 92 ?hg (N := 2) ?hd (xs := ([(⟨(⟨#[47]⟩ : ByteArray), (⟨#[]⟩ : ByteArray), 0, 0, 0, 0, 0⟩ : S92)] : List (S92))) (inner := [.string (⟨#[47]⟩ : ByteArray), .string (⟨#[]⟩ : ByteArray), .int .i64 0, .int .i64 0, .int .i64 0, .int .i64 0, .int .i64 0]) (ok := fun _ => True) (okp := fun _ => True) ?hr ?hp (fun _ hk => hk) trivial (Below.refl _ _) (Nat.le_refl _) (by simp) ?_; (case hd => rfl); (case hg => rfl); (case hr => first | (go_simp; done) | (go_simp; rfl)); (case hp => exact (Reps.c7 (show Kd.M k92 _ _ _ (⟨(⟨#[47]⟩ : ByteArray), (⟨#[]⟩ : ByteArray), 0, 0, 0, 0, 0⟩ : S92) [.string (⟨#[47]⟩ : ByteArray), .string (⟨#[]⟩ : ByteArray), .int .i64 0, .int .i64 0, .int .i64 0, .int .i64 0, .int .i64 0] from (k92_mkM _ _ _ (⟨(⟨#[47]⟩ : ByteArray), (⟨#[]⟩ : ByteArray), 0, 0, 0, 0, 0⟩ : S92) )) (Reps.none _ _))); intro v208 w2 zD hb hg_ hnew_; clear hg_ hnew_; (first | rw [← Ny207.out] at zD | (simp only [Int.reduceToNat] at zD; rw [← Ny207.out] at zD)); have n0_ := Aside0.mk (Kd.R_lower zD (zk (by repeat (first | (with_reducible first | exact HB.out | apply zd | apply zb | apply zc | refine zh ?_ zC.out) | exact HB.out)))); have n1_ := Aside0.mk (zo (g := zB) (o := .cells #[.slice none 0 0] 25 (0, 0)) (by (with_reducible repeat (first | refine zj ?_ _ | refine zl ?_ | refine zi ?_ _)); exact zA.out) hb); have n2_ := Aside0.mk (zm (by repeat (first | (with_reducible first | exact HB.out | apply zd | apply zb | apply zc | refine zh ?_ zC.out) | exact HB.out)) hb); clear zA; clear HB; have zE := n0_; have zA := n1_; have HB := n2_; clear n0_ n1_ n2_; clear hb zD; obtain ⟨Ao4, co4, eo4⟩ := Kd.R_slice zE.out; subst eo4; have zF : w2.cell? ⟨zB, 0, none⟩ = some (.slice none 0 0) := (ze zA.out 0).trans rfl; have zG := zg zA.out 0))
 refine bodyPost_ret (results_cell_row rfl _ _ zB 25 #[.slice Ao4 y207.length co4] (0, 0) _ rfl (by (with_reducible repeat (first | refine zj ?_ _ | refine zl ?_ | refine zi ?_ _)); refine zy (cs := #[.slice none 0 0]) ?_ 0 _ rfl; (with_reducible repeat (first | refine zj ?_ _ | refine zl ?_ | refine zi ?_ _)); exact zA.out) Tryd.underlying25 rfl (by kernel_rfl)) rfl ?_
 exact ⟨_, by first | rfl | (simp [errW_none, errW_some] <;> rfl) | (simp [*, errW_none, errW_some] <;> rfl), by (with_reducible repeat (first | apply Kd.R_alloc | apply Kd.R_drewN | apply Kd.R_drew)); exact Kd.R_mono (Kd.R_far (p := ⟨zB, 0, none⟩) (Kd.R_types zE.out zA.out (by decide)) (fun _ hk => hk.2) (.slice Ao4 y207.length co4)) (fun _ hk => trivial), by repeat (first | (with_reducible first | exact HB.out | apply zd | apply zb | apply zc | refine zh ?_ zC.out) | exact HB.out)⟩

def spec_l4ValidSuper.f (a0_0 : Int) (a0_1 : Int) (a0_2 : Int) (a0_3 : Int) (a0_4 : Int) : Option (Bool) := if a0_0 ≥ 1 then (if a0_1 ≥ 0 then (if a0_1 ≤ 1 then ((spec_l3Stat.f a0_2).bind fun t211 => (if t211 = true then (if a0_3 ≥ 0 then (if a0_3 ≤ 4096 then (if a0_4 ≥ 0 then (some (decide (a0_4 ≤ 4294967295))) else (some false)) else (some false)) else (some false)) else (some false))) else (some false)) else (some false)) else (some false)
set_option maxHeartbeats 8000000 in
set_option maxRecDepth 100000 in
theorem spec_l4ValidSuper.calls (a0_0 : Int) (a0_1 : Int) (a0_2 : Int) (a0_3 : Int) (a0_4 : Int) (r : Bool) (w : World) (h : spec_l4ValidSuper.f a0_0 a0_1 a0_2 a0_3 a0_4 = some r) :
  Calls Tryd.prog 140 #[.agg #[.int .i64 a0_0, .int .i64 a0_1, .int .i64 a0_2, .int .i64 a0_3, .int .i64 a0_4]] w fun e w' => e = .returned (.bool r) ∧ Below w.heap.size w w' := by
 have hu113 := Tryd.underlying113
 have HB := Aside0.mk (Below.refl w.heap.size w)
 have H : (if a0_0 ≥ 1 then (if a0_1 ≥ 0 then (if a0_1 ≤ 1 then ((spec_l3Stat.f a0_2).bind fun t211 => (if t211 = true then (if a0_3 ≥ 0 then (if a0_3 ≤ 4096 then (if a0_4 ≥ 0 then (some (decide (a0_4 ≤ 4294967295))) else (some false)) else (some false)) else (some false)) else (some false))) else (some false)) else (some false)) else (some false)) = some r := h
 clear h
 by_cases c2 : a0_0 ≥ 1
 ·rw [if_pos c2] at H
  have c2b0 : decide (1 ≤ a0_0) = true := decide_eq_true c2
  clear c2
  by_cases c3 : a0_1 ≥ 0
  ·rw [if_pos c3] at H
   have c3b0 : decide (0 ≤ a0_1) = true := decide_eq_true c3
   clear c3
   by_cases c4 : a0_1 ≤ 1
   ·rw [if_pos c4] at H
    have c4b0 : decide (a0_1 ≤ 1) = true := decide_eq_true c4
    clear c4
    replace H := Option.bind_eq_some_iff.mp H
    obtain ⟨t211, A50, H⟩ := H
    replace H : (if t211 = true then (if a0_3 ≥ 0 then (if a0_3 ≤ 4096 then (if a0_4 ≥ 0 then (some (decide (a0_4 ≤ 4294967295))) else (some false)) else (some false)) else (some false)) else (some false)) = some r := H
    have A5 := Aside0.mk A50
    clear A50
    by_cases c6 : t211 = true
    ·subst c6
     have H1 : (if a0_3 ≥ 0 then (if a0_3 ≤ 4096 then (if a0_4 ≥ 0 then (some (decide (a0_4 ≤ 4294967295))) else (some false)) else (some false)) else (some false)) = some r := by rw [if_pos rfl] at H; exact H
     clear H
     have H := H1
     clear H1
     by_cases c7 : a0_3 ≥ 0
     ·rw [if_pos c7] at H
      have c7b0 : decide (0 ≤ a0_3) = true := decide_eq_true c7
      clear c7
      by_cases c8 : a0_3 ≤ 4096
      ·rw [if_pos c8] at H
       have c8b0 : decide (a0_3 ≤ 4096) = true := decide_eq_true c8
       clear c8
       by_cases c9 : a0_4 ≥ 0
       ·rw [if_pos c9] at H
        have c9b0 : decide (0 ≤ a0_4) = true := decide_eq_true c9
        clear c9
        obtain rfl := Option.some.inj H
        go_enter Tryd.func140, Tryd.ntmps140
        go_wp2_with (first | ((with_reducible refine zr (N := 1) rfl ?_); refine zu ?hg (N := 1) ?hd (cs := #[.int .i64 a0_0, .int .i64 a0_1, .int .i64 a0_2, .int .i64 a0_3, .int .i64 a0_4]) (t := 113) ?hr ?_; (case hd => rfl); (case hg => rfl); (case hr => first | (go_simp; done) | (go_simp; rfl)); intro zB hg w10 hbox hb; have n0_ := Aside0.mk (zm (by repeat (first | (with_reducible first | exact HB.out | apply zd | apply zb | apply zc) | exact HB.out)) hb); have n1_ := Aside0.mk (hbox); have n2_ := Aside0.mk ((by rw [hg]; exact (zk (by repeat (first | (with_reducible first | exact HB.out | apply zd | apply zb | apply zc) | exact HB.out))) : w.heap.size ≤ zB)); have n3_ := Aside0.mk ((by rw [hg]; exact (zk (by repeat (first | (with_reducible first | exact HB.out | apply zd | apply zb | apply zc) | exact HB.out))) : w.heap.size ≤ zB)); clear HB; have HB := n0_; have zA := n1_; have GW210 := n2_; have zC := n3_; clear n0_ n1_ n2_ n3_; clear hb hbox hg; have zD : w10.cell? ⟨zB, 0, none⟩ = some (.int .i64 a0_0) := (ze zA.out 0).trans rfl; have zE : w10.cell? ⟨zB, 1, none⟩ = some (.int .i64 a0_1) := (ze zA.out 1).trans rfl; have zF : w10.cell? ⟨zB, 2, none⟩ = some (.int .i64 a0_2) := (ze zA.out 2).trans rfl; have zG : w10.cell? ⟨zB, 3, none⟩ = some (.int .i64 a0_3) := (ze zA.out 3).trans rfl; have zH : w10.cell? ⟨zB, 4, none⟩ = some (.int .i64 a0_4) := (ze zA.out 4).trans rfl; have zI := zg zA.out 0; have zJ := zg zA.out 1; have zK := zg zA.out 2; have zL := zg zA.out 3; have zM := zg zA.out 4) | (go_at_call 185; (with_reducible refine (spec_l3Stat.calls a0_2 true _ A5.out).mono ?_); rintro e w' ⟨rfl, ⟨nd, rfl⟩⟩))
        go_ret
        exact ⟨by first | rfl | (simp [errW_none, errW_some] <;> rfl) | (simp [*, errW_none, errW_some] <;> rfl), by repeat (first | (with_reducible first | exact HB.out | apply zd | apply zb | apply zc | refine zh ?_ zC.out) | exact HB.out)⟩
       ·rw [if_neg c9] at H
        have c9b0 : decide (0 ≤ a0_4) = false := decide_eq_false c9
        clear c9
        obtain rfl := Option.some.inj H
        go_enter Tryd.func140, Tryd.ntmps140
        go_wp2_with (first | ((with_reducible refine zr (N := 1) rfl ?_); refine zu ?hg (N := 1) ?hd (cs := #[.int .i64 a0_0, .int .i64 a0_1, .int .i64 a0_2, .int .i64 a0_3, .int .i64 a0_4]) (t := 113) ?hr ?_; (case hd => rfl); (case hg => rfl); (case hr => first | (go_simp; done) | (go_simp; rfl)); intro zB hg w12 hbox hb; have n0_ := Aside0.mk (zm (by repeat (first | (with_reducible first | exact HB.out | apply zd | apply zb | apply zc) | exact HB.out)) hb); have n1_ := Aside0.mk (hbox); have n2_ := Aside0.mk ((by rw [hg]; exact (zk (by repeat (first | (with_reducible first | exact HB.out | apply zd | apply zb | apply zc) | exact HB.out))) : w.heap.size ≤ zB)); have n3_ := Aside0.mk ((by rw [hg]; exact (zk (by repeat (first | (with_reducible first | exact HB.out | apply zd | apply zb | apply zc) | exact HB.out))) : w.heap.size ≤ zB)); clear HB; have HB := n0_; have zA := n1_; have GW210 := n2_; have zC := n3_; clear n0_ n1_ n2_ n3_; clear hb hbox hg; have zN : w12.cell? ⟨zB, 0, none⟩ = some (.int .i64 a0_0) := (ze zA.out 0).trans rfl; have zO : w12.cell? ⟨zB, 1, none⟩ = some (.int .i64 a0_1) := (ze zA.out 1).trans rfl; have zP : w12.cell? ⟨zB, 2, none⟩ = some (.int .i64 a0_2) := (ze zA.out 2).trans rfl; have zQ : w12.cell? ⟨zB, 3, none⟩ = some (.int .i64 a0_3) := (ze zA.out 3).trans rfl; have zR : w12.cell? ⟨zB, 4, none⟩ = some (.int .i64 a0_4) := (ze zA.out 4).trans rfl; have zS := zg zA.out 0; have zT := zg zA.out 1; have zU := zg zA.out 2; have zV := zg zA.out 3; have zW := zg zA.out 4) | (go_at_call 185; (with_reducible refine (spec_l3Stat.calls a0_2 true _ A5.out).mono ?_); rintro e w' ⟨rfl, ⟨nd, rfl⟩⟩))
        go_ret
        exact ⟨by first | rfl | (simp [errW_none, errW_some] <;> rfl) | (simp [*, errW_none, errW_some] <;> rfl), by repeat (first | (with_reducible first | exact HB.out | apply zd | apply zb | apply zc | refine zh ?_ zC.out) | exact HB.out)⟩
      ·rw [if_neg c8] at H
       have c8b0 : decide (a0_3 ≤ 4096) = false := decide_eq_false c8
       clear c8
       obtain rfl := Option.some.inj H
       go_enter Tryd.func140, Tryd.ntmps140
       go_wp2_with (first | ((with_reducible refine zr (N := 1) rfl ?_); refine zu ?hg (N := 1) ?hd (cs := #[.int .i64 a0_0, .int .i64 a0_1, .int .i64 a0_2, .int .i64 a0_3, .int .i64 a0_4]) (t := 113) ?hr ?_; (case hd => rfl); (case hg => rfl); (case hr => first | (go_simp; done) | (go_simp; rfl)); intro zB hg w14 hbox hb; have n0_ := Aside0.mk (zm (by repeat (first | (with_reducible first | exact HB.out | apply zd | apply zb | apply zc) | exact HB.out)) hb); have n1_ := Aside0.mk (hbox); have n2_ := Aside0.mk ((by rw [hg]; exact (zk (by repeat (first | (with_reducible first | exact HB.out | apply zd | apply zb | apply zc) | exact HB.out))) : w.heap.size ≤ zB)); have n3_ := Aside0.mk ((by rw [hg]; exact (zk (by repeat (first | (with_reducible first | exact HB.out | apply zd | apply zb | apply zc) | exact HB.out))) : w.heap.size ≤ zB)); clear HB; have HB := n0_; have zA := n1_; have GW210 := n2_; have zC := n3_; clear n0_ n1_ n2_ n3_; clear hb hbox hg; have zX : w14.cell? ⟨zB, 0, none⟩ = some (.int .i64 a0_0) := (ze zA.out 0).trans rfl; have zY : w14.cell? ⟨zB, 1, none⟩ = some (.int .i64 a0_1) := (ze zA.out 1).trans rfl; have zZ : w14.cell? ⟨zB, 2, none⟩ = some (.int .i64 a0_2) := (ze zA.out 2).trans rfl; have zab : w14.cell? ⟨zB, 3, none⟩ = some (.int .i64 a0_3) := (ze zA.out 3).trans rfl; have zbb : w14.cell? ⟨zB, 4, none⟩ = some (.int .i64 a0_4) := (ze zA.out 4).trans rfl; have zcb := zg zA.out 0; have zdb := zg zA.out 1; have zeb := zg zA.out 2; have zfb := zg zA.out 3; have zgb := zg zA.out 4) | (go_at_call 185; (with_reducible refine (spec_l3Stat.calls a0_2 true _ A5.out).mono ?_); rintro e w' ⟨rfl, ⟨nd, rfl⟩⟩))
       go_ret
       exact ⟨by first | rfl | (simp [errW_none, errW_some] <;> rfl) | (simp [*, errW_none, errW_some] <;> rfl), by repeat (first | (with_reducible first | exact HB.out | apply zd | apply zb | apply zc | refine zh ?_ zC.out) | exact HB.out)⟩
     ·rw [if_neg c7] at H
      have c7b0 : decide (0 ≤ a0_3) = false := decide_eq_false c7
      clear c7
      obtain rfl := Option.some.inj H
      go_enter Tryd.func140, Tryd.ntmps140
      go_wp2_with (first | ((with_reducible refine zr (N := 1) rfl ?_); refine zu ?hg (N := 1) ?hd (cs := #[.int .i64 a0_0, .int .i64 a0_1, .int .i64 a0_2, .int .i64 a0_3, .int .i64 a0_4]) (t := 113) ?hr ?_; (case hd => rfl); (case hg => rfl); (case hr => first | (go_simp; done) | (go_simp; rfl)); intro zB hg w16 hbox hb; have n0_ := Aside0.mk (zm (by repeat (first | (with_reducible first | exact HB.out | apply zd | apply zb | apply zc) | exact HB.out)) hb); have n1_ := Aside0.mk (hbox); have n2_ := Aside0.mk ((by rw [hg]; exact (zk (by repeat (first | (with_reducible first | exact HB.out | apply zd | apply zb | apply zc) | exact HB.out))) : w.heap.size ≤ zB)); have n3_ := Aside0.mk ((by rw [hg]; exact (zk (by repeat (first | (with_reducible first | exact HB.out | apply zd | apply zb | apply zc) | exact HB.out))) : w.heap.size ≤ zB)); clear HB; have HB := n0_; have zA := n1_; have GW210 := n2_; have zC := n3_; clear n0_ n1_ n2_ n3_; clear hb hbox hg; have zhb : w16.cell? ⟨zB, 0, none⟩ = some (.int .i64 a0_0) := (ze zA.out 0).trans rfl; have zib : w16.cell? ⟨zB, 1, none⟩ = some (.int .i64 a0_1) := (ze zA.out 1).trans rfl; have zjb : w16.cell? ⟨zB, 2, none⟩ = some (.int .i64 a0_2) := (ze zA.out 2).trans rfl; have zkb : w16.cell? ⟨zB, 3, none⟩ = some (.int .i64 a0_3) := (ze zA.out 3).trans rfl; have zlb : w16.cell? ⟨zB, 4, none⟩ = some (.int .i64 a0_4) := (ze zA.out 4).trans rfl; have zmb := zg zA.out 0; have znb := zg zA.out 1; have zob := zg zA.out 2; have zpb := zg zA.out 3; have zqb := zg zA.out 4) | (go_at_call 185; (with_reducible refine (spec_l3Stat.calls a0_2 true _ A5.out).mono ?_); rintro e w' ⟨rfl, ⟨nd, rfl⟩⟩))
      go_ret
      exact ⟨by first | rfl | (simp [errW_none, errW_some] <;> rfl) | (simp [*, errW_none, errW_some] <;> rfl), by repeat (first | (with_reducible first | exact HB.out | apply zd | apply zb | apply zc | refine zh ?_ zC.out) | exact HB.out)⟩
    ·replace c6 := Bool.eq_false_iff.mpr c6
     subst c6
     have H1 : (some false) = some r := by rw [if_neg (show ¬ (false = true) by decide)] at H; exact H
     clear H
     have H := H1
     clear H1
     obtain rfl := Option.some.inj H
     go_enter Tryd.func140, Tryd.ntmps140
     go_wp2_with (first | ((with_reducible refine zr (N := 1) rfl ?_); refine zu ?hg (N := 1) ?hd (cs := #[.int .i64 a0_0, .int .i64 a0_1, .int .i64 a0_2, .int .i64 a0_3, .int .i64 a0_4]) (t := 113) ?hr ?_; (case hd => rfl); (case hg => rfl); (case hr => first | (go_simp; done) | (go_simp; rfl)); intro zB hg w18 hbox hb; have n0_ := Aside0.mk (zm (by repeat (first | (with_reducible first | exact HB.out | apply zd | apply zb | apply zc) | exact HB.out)) hb); have n1_ := Aside0.mk (hbox); have n2_ := Aside0.mk ((by rw [hg]; exact (zk (by repeat (first | (with_reducible first | exact HB.out | apply zd | apply zb | apply zc) | exact HB.out))) : w.heap.size ≤ zB)); have n3_ := Aside0.mk ((by rw [hg]; exact (zk (by repeat (first | (with_reducible first | exact HB.out | apply zd | apply zb | apply zc) | exact HB.out))) : w.heap.size ≤ zB)); clear HB; have HB := n0_; have zA := n1_; have GW210 := n2_; have zC := n3_; clear n0_ n1_ n2_ n3_; clear hb hbox hg; have zrb : w18.cell? ⟨zB, 0, none⟩ = some (.int .i64 a0_0) := (ze zA.out 0).trans rfl; have zsb : w18.cell? ⟨zB, 1, none⟩ = some (.int .i64 a0_1) := (ze zA.out 1).trans rfl; have ztb : w18.cell? ⟨zB, 2, none⟩ = some (.int .i64 a0_2) := (ze zA.out 2).trans rfl; have zub : w18.cell? ⟨zB, 3, none⟩ = some (.int .i64 a0_3) := (ze zA.out 3).trans rfl; have zvb : w18.cell? ⟨zB, 4, none⟩ = some (.int .i64 a0_4) := (ze zA.out 4).trans rfl; have zwb := zg zA.out 0; have zxb := zg zA.out 1; have zyb := zg zA.out 2; have zzb := zg zA.out 3; have zAb := zg zA.out 4) | (go_at_call 185; (with_reducible refine (spec_l3Stat.calls a0_2 false _ A5.out).mono ?_); rintro e w' ⟨rfl, ⟨nd, rfl⟩⟩))
     go_ret
     exact ⟨by first | rfl | (simp [errW_none, errW_some] <;> rfl) | (simp [*, errW_none, errW_some] <;> rfl), by repeat (first | (with_reducible first | exact HB.out | apply zd | apply zb | apply zc | refine zh ?_ zC.out) | exact HB.out)⟩
   ·rw [if_neg c4] at H
    have c4b0 : decide (a0_1 ≤ 1) = false := decide_eq_false c4
    clear c4
    obtain rfl := Option.some.inj H
    go_enter Tryd.func140, Tryd.ntmps140
    go_wp2_with (first | ((with_reducible refine zr (N := 1) rfl ?_); refine zu ?hg (N := 1) ?hd (cs := #[.int .i64 a0_0, .int .i64 a0_1, .int .i64 a0_2, .int .i64 a0_3, .int .i64 a0_4]) (t := 113) ?hr ?_; (case hd => rfl); (case hg => rfl); (case hr => first | (go_simp; done) | (go_simp; rfl)); intro zB hg w20 hbox hb; have n0_ := Aside0.mk (zm (by repeat (first | (with_reducible first | exact HB.out | apply zd | apply zb | apply zc) | exact HB.out)) hb); have n1_ := Aside0.mk (hbox); have n2_ := Aside0.mk ((by rw [hg]; exact (zk (by repeat (first | (with_reducible first | exact HB.out | apply zd | apply zb | apply zc) | exact HB.out))) : w.heap.size ≤ zB)); have n3_ := Aside0.mk ((by rw [hg]; exact (zk (by repeat (first | (with_reducible first | exact HB.out | apply zd | apply zb | apply zc) | exact HB.out))) : w.heap.size ≤ zB)); clear HB; have HB := n0_; have zA := n1_; have GW210 := n2_; have zC := n3_; clear n0_ n1_ n2_ n3_; clear hb hbox hg; have zBb : w20.cell? ⟨zB, 0, none⟩ = some (.int .i64 a0_0) := (ze zA.out 0).trans rfl; have zCb : w20.cell? ⟨zB, 1, none⟩ = some (.int .i64 a0_1) := (ze zA.out 1).trans rfl; have zDb : w20.cell? ⟨zB, 2, none⟩ = some (.int .i64 a0_2) := (ze zA.out 2).trans rfl; have zEb : w20.cell? ⟨zB, 3, none⟩ = some (.int .i64 a0_3) := (ze zA.out 3).trans rfl; have zFb : w20.cell? ⟨zB, 4, none⟩ = some (.int .i64 a0_4) := (ze zA.out 4).trans rfl; have zGb := zg zA.out 0; have zHb := zg zA.out 1; have zIb := zg zA.out 2; have zJb := zg zA.out 3; have zKb := zg zA.out 4))
    go_ret
    exact ⟨by first | rfl | (simp [errW_none, errW_some] <;> rfl) | (simp [*, errW_none, errW_some] <;> rfl), by repeat (first | (with_reducible first | exact HB.out | apply zd | apply zb | apply zc | refine zh ?_ zC.out) | exact HB.out)⟩
  ·rw [if_neg c3] at H
   have c3b0 : decide (0 ≤ a0_1) = false := decide_eq_false c3
   clear c3
   obtain rfl := Option.some.inj H
   go_enter Tryd.func140, Tryd.ntmps140
   go_wp2_with (first | ((with_reducible refine zr (N := 1) rfl ?_); refine zu ?hg (N := 1) ?hd (cs := #[.int .i64 a0_0, .int .i64 a0_1, .int .i64 a0_2, .int .i64 a0_3, .int .i64 a0_4]) (t := 113) ?hr ?_; (case hd => rfl); (case hg => rfl); (case hr => first | (go_simp; done) | (go_simp; rfl)); intro zB hg w22 hbox hb; have n0_ := Aside0.mk (zm (by repeat (first | (with_reducible first | exact HB.out | apply zd | apply zb | apply zc) | exact HB.out)) hb); have n1_ := Aside0.mk (hbox); have n2_ := Aside0.mk ((by rw [hg]; exact (zk (by repeat (first | (with_reducible first | exact HB.out | apply zd | apply zb | apply zc) | exact HB.out))) : w.heap.size ≤ zB)); have n3_ := Aside0.mk ((by rw [hg]; exact (zk (by repeat (first | (with_reducible first | exact HB.out | apply zd | apply zb | apply zc) | exact HB.out))) : w.heap.size ≤ zB)); clear HB; have HB := n0_; have zA := n1_; have GW210 := n2_; have zC := n3_; clear n0_ n1_ n2_ n3_; clear hb hbox hg; have zLb : w22.cell? ⟨zB, 0, none⟩ = some (.int .i64 a0_0) := (ze zA.out 0).trans rfl; have zMb : w22.cell? ⟨zB, 1, none⟩ = some (.int .i64 a0_1) := (ze zA.out 1).trans rfl; have zNb : w22.cell? ⟨zB, 2, none⟩ = some (.int .i64 a0_2) := (ze zA.out 2).trans rfl; have zOb : w22.cell? ⟨zB, 3, none⟩ = some (.int .i64 a0_3) := (ze zA.out 3).trans rfl; have zPb : w22.cell? ⟨zB, 4, none⟩ = some (.int .i64 a0_4) := (ze zA.out 4).trans rfl; have zQb := zg zA.out 0; have zRb := zg zA.out 1; have zSb := zg zA.out 2; have zTb := zg zA.out 3; have zUb := zg zA.out 4))
   go_ret
   exact ⟨by first | rfl | (simp [errW_none, errW_some] <;> rfl) | (simp [*, errW_none, errW_some] <;> rfl), by repeat (first | (with_reducible first | exact HB.out | apply zd | apply zb | apply zc | refine zh ?_ zC.out) | exact HB.out)⟩
 ·rw [if_neg c2] at H
  have c2b0 : decide (1 ≤ a0_0) = false := decide_eq_false c2
  clear c2
  obtain rfl := Option.some.inj H
  go_enter Tryd.func140, Tryd.ntmps140
  go_wp2_with (first | ((with_reducible refine zr (N := 1) rfl ?_); refine zu ?hg (N := 1) ?hd (cs := #[.int .i64 a0_0, .int .i64 a0_1, .int .i64 a0_2, .int .i64 a0_3, .int .i64 a0_4]) (t := 113) ?hr ?_; (case hd => rfl); (case hg => rfl); (case hr => first | (go_simp; done) | (go_simp; rfl)); intro zB hg w24 hbox hb; have n0_ := Aside0.mk (zm (by repeat (first | (with_reducible first | exact HB.out | apply zd | apply zb | apply zc) | exact HB.out)) hb); have n1_ := Aside0.mk (hbox); have n2_ := Aside0.mk ((by rw [hg]; exact (zk (by repeat (first | (with_reducible first | exact HB.out | apply zd | apply zb | apply zc) | exact HB.out))) : w.heap.size ≤ zB)); have n3_ := Aside0.mk ((by rw [hg]; exact (zk (by repeat (first | (with_reducible first | exact HB.out | apply zd | apply zb | apply zc) | exact HB.out))) : w.heap.size ≤ zB)); clear HB; have HB := n0_; have zA := n1_; have GW210 := n2_; have zC := n3_; clear n0_ n1_ n2_ n3_; clear hb hbox hg; have zVb : w24.cell? ⟨zB, 0, none⟩ = some (.int .i64 a0_0) := (ze zA.out 0).trans rfl; have zWb : w24.cell? ⟨zB, 1, none⟩ = some (.int .i64 a0_1) := (ze zA.out 1).trans rfl; have zXb : w24.cell? ⟨zB, 2, none⟩ = some (.int .i64 a0_2) := (ze zA.out 2).trans rfl; have zYb : w24.cell? ⟨zB, 3, none⟩ = some (.int .i64 a0_3) := (ze zA.out 3).trans rfl; have zZb : w24.cell? ⟨zB, 4, none⟩ = some (.int .i64 a0_4) := (ze zA.out 4).trans rfl; have zac := zg zA.out 0; have zbc := zg zA.out 1; have zcc := zg zA.out 2; have zdc := zg zA.out 3; have zec := zg zA.out 4))
  go_ret
  exact ⟨by first | rfl | (simp [errW_none, errW_some] <;> rfl) | (simp [*, errW_none, errW_some] <;> rfl), by repeat (first | (with_reducible first | exact HB.out | apply zd | apply zb | apply zc | refine zh ?_ zC.out) | exact HB.out)⟩

end Go.Proofs.YtjoafknckmoojaaDoor.GFnExactFormatDisk
