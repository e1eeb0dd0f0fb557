/- Written by give.py, a program of this session, that runs the kit's print and lays contracts proved by hand beside it. -/
import Derived.Test.YtejecjjimggjeaaGFnTornSuperx0
import Derived.Test.YtejecjjimggjeaaGFnTornSuperx5
namespace Go.Proofs.Ytejecjjimggjeaa.GFnTornSuper
open Go.RowKit Go.Proofs.YtejecjjimggjeaaW.PrintWords Go.Proofs.YtejecjjimggjeaaW.PrintLast Go.Proofs.YtejecjjimggjeaaW.PrintMore
attribute [local go_sem] max2_int min2_int max_two min_two max_three min_three max_four min_four
attribute [local go_sem high] Go.Proofs.YtejecjjimggjeaaH.str_leq Go.Proofs.YtejecjjimggjeaaH.str_geq Go.Proofs.YtejecjjimggjeaaH.str_gtr   -- for this text's walks alone
set_option linter.unusedVariables false
set_option linter.unusedSimpArgs false

def spec_l4Big.f : Nat → Int → Int → Option (List Int)
 | 0, _, _ => none
 | k + 1, a0, a1 => if a1 = 0 then (some (([] : List Int))) else ((spec_l4Big.f k (wrap64 (Int.tdiv a0 256)) (wrap64 (a1 - 1))).bind fun t206 => (if t206.length < 140737488355328 then (some (t206 ++ [(Int.tmod a0 256) % 256])) else (none)))
theorem spec_l4Big.mono_l : ∀ k, (∀ y0 y1, LeO (spec_l4Big.f k y0 y1) (spec_l4Big.f (k + 1) y0 y1))
 | 0 => fun _ _ r h => by simp [spec_l4Big.f] at h
 | k + 1 => by
  have ih0 := spec_l4Big.mono_l k
  ·intro y0 y1
   unfold spec_l4Big.f
   repeat' first
   | (with_reducible exact ih0 _ _)
   | (with_reducible exact LeO.refl _)
   | (with_reducible exact LeO.none _)
   | (with_reducible refine LeO.ite ?_ ?_)
   | (with_reducible refine LeO.bind ?_ (fun _ => ?_))
   | exact ih0 _ _
   | exact LeO.none _
   | refine LeO.ite ?_ ?_
   | refine LeO.bind ?_ (fun _ => ?_)
theorem spec_l4Big.mono : ∀ a0 a1 k, LeO (spec_l4Big.f k a0 a1) (spec_l4Big.f (k + 1) a0 a1) := by
 intro a0 a1 k
 have ih0 := spec_l4Big.mono_l k
 exact ih0 a0 a1
set_option maxHeartbeats 8000000 in
set_option maxRecDepth 100000 in
theorem spec_l4Big.calls (k : Nat) : ∀ (a0 : Int) (a1 : Int) (r : List Int) (w : World) (h : spec_l4Big.f k a0 a1 = some r),
  Calls Try.prog 55 #[.int .i64 a0, .int .i64 a1] w fun e w' => ∃ v0_ : Value, e = .returned (v0_) ∧ Kd.R (Kd.int .u8) 5 w' w.heap.size (fun _ => True) v0_ r ∧ Below w.heap.size w w' := by
 induction k using Nat.strongRecOn with
 | _ k ih =>
 intro a0 a1 r w h
 cases k with
 | zero => exact absurd h (by simp [spec_l4Big.f])
 | succ k =>
 simp only [spec_l4Big.f] at h
 have HB := Aside0.mk (Below.refl w.heap.size w)
 have H : (if a1 = 0 then (some (([] : List Int))) else ((spec_l4Big.f k (wrap64 (Int.tdiv a0 256)) (wrap64 (a1 - 1))).bind fun t206 => (if t206.length < 140737488355328 then (some (t206 ++ [(Int.tmod a0 256) % 256])) else (none)))) = some r := h
 clear h
 by_cases c3 : a1 = 0
 ·rw [if_pos c3] at H
  have c3b0 : (a1 == 0) = true := beq_iff_eq.mpr c3
  have c3b1 : (a1 != 0) = false := bne_eq_false_iff_eq.mpr c3
  clear c3
  obtain ⟨y203, hy203⟩ : ∃ y_ : List Int, y_ = (([] : List Int)) := ⟨_, rfl⟩
  replace H : (some y203) = some r := by first | (rw [hy203]; with_reducible exact H) | (have H2_ := (Option.bind_some _ _).symm.trans H; rw [hy203]; with_reducible exact H2_) | (have H2_ := (Option.bind_some _ _).symm.trans H; with_reducible exact H2_) | with_reducible exact H | (rw [hy203]; exact H) | exact H
  have Ny203 := Aside0.mk hy203
  clear hy203
  obtain rfl := Option.some.inj H
  go_enter Try.func55, Try.ntmps55
  go_wp2_with (first | ((with_reducible refine zu (N := 7) rfl ?_); refine Kd.R_lit (Kd.int .u8) _ 5 ?hg (N := 7) ?hd (xs := ([] : List Int)) (inner := []) (ok := fun _ => True) (okp := fun _ => True) ?hr ?hp (fun _ hk => hk) trivial (Below.refl _ _) (Nat.le_refl _) (by simp) ?_; (case hd => rfl); (case hg => rfl); (case hr => first | (go_simp; done) | (go_simp; rfl)); (case hp => exact (Reps.none _ _)); intro v204 w4 zz hb hg_ hnew_; clear hg_ hnew_; (first | rw [← Ny203.out] at zz | (simp only [Int.reduceToNat] at zz; rw [← Ny203.out] at zz)); have n0_ := Aside0.mk (Kd.R_lower zz (zk (by repeat (first | (with_reducible first | exact HB.out | apply zg | apply zd | apply zh) | exact HB.out)))); have n1_ := Aside0.mk (zl (by repeat (first | (with_reducible first | exact HB.out | apply zg | apply zd | apply zh) | exact HB.out)) hb); clear HB; have zB := n0_; have HB := n1_; clear n0_ n1_; clear hb zz))
  go_ret
  exact ⟨_, by first | rfl | (simp [errW_none, errW_some] <;> rfl) | (simp [*, errW_none, errW_some] <;> rfl), by (with_reducible repeat (first | apply Kd.R_alloc | apply Kd.R_drewN | apply Kd.R_drew)); exact zB.out, by repeat (first | (with_reducible first | exact HB.out | apply zg | apply zd | apply zh) | exact HB.out)⟩
 ·rw [if_neg c3] at H
  have c3b0 : (a1 == 0) = false := beq_eq_false_iff_ne.mpr c3
  have c3b1 : (a1 != 0) = true := bne_iff_ne.mpr c3
  replace H := Option.bind_eq_some_iff.mp H
  obtain ⟨t206, A60, H⟩ := H
  replace H : (if t206.length < 140737488355328 then (some (t206 ++ [(Int.tmod a0 256) % 256])) else (none)) = some r := H
  have A6 := Aside0.mk A60
  clear A60
  by_cases c7 : t206.length < 140737488355328
  ·rw [if_pos c7] at H
   have LMc7 := Aside0.mk c7
   clear c7
   obtain ⟨y209, hy209⟩ : ∃ y_ : List Int, y_ = (t206 ++ [(Int.tmod a0 256) % 256]) := ⟨_, rfl⟩
   replace H : (some y209) = some r := by first | (rw [hy209]; with_reducible exact H) | (have H2_ := (Option.bind_some _ _).symm.trans H; rw [hy209]; with_reducible exact H2_) | (have H2_ := (Option.bind_some _ _).symm.trans H; with_reducible exact H2_) | with_reducible exact H | (rw [hy209]; exact H) | exact H
   have Ny209 := Aside0.mk hy209
   clear hy209
   obtain rfl := Option.some.inj H
   go_enter Try.func55, Try.ntmps55
   go_wp2_with (first | ((with_reducible refine zo (f := 55) rfl ?_); refine goesL_ (some 12) rfl rfl Try.func55 (by kernel_rfl) rfl #[.int .i64 (wrap64 (Int.tdiv a0 256)), .int .i64 (wrap64 (a1 - 1))] rfl (by (try simp only [List.map_toArray, List.map_cons, List.map_nil]); first | done | rfl | (simp only [List.length_drop, List.length_take]; rfl)) ?_; (with_reducible refine (ih k (by omega) (wrap64 (Int.tdiv a0 256)) (wrap64 (a1 - 1)) t206 _ A6.out).mono ?_); rintro e w8 ⟨v207, rfl, zD, hb⟩; refine ⟨_, rfl, ?_⟩; have n0_ := Aside0.mk (Kd.R_lower zD (zk (by repeat (first | (with_reducible first | exact HB.out | apply zg | apply zd | apply zh) | exact HB.out)))); have n1_ := Aside0.mk (zl (by repeat (first | (with_reducible first | exact HB.out | apply zg | apply zd | apply zh) | exact HB.out)) hb); clear HB; have zA := n0_; have HB := n1_; clear n0_ n1_; (try clear hb); (try clear hb2); (try clear hk); (try clear hi); (try clear zD)) | ((with_reducible refine gate_builtin (b := .append) (xs := #[.tmp 12, .tmp 16]) rfl ?_); at_builtin; refine Kd.R_append (Kd.int .u8) (w0 := w) w.heap.size rfl (.tmp 12) (.tmp 16) 22 5 (.int .u8 0) 1 rfl Try.underlying22 info5 rfl (by decide) (by omega) v207 t206 ((Int.tmod a0 256) % 256) [.int .u8 ((Int.tmod a0 256) % 256)] (fun _ => True) (fun _ => False) rfl rfl ?aP (fun _ hk => hk.elim) ?aF ?aO ?aB ?aS ?aL ?_; (case aP => exact rfl); (case aB => exact (by repeat (first | (with_reducible first | exact HB.out | apply zg | apply zd | apply zh) | exact HB.out))); (case aF => exact (fun _ _ => trivial)); (case aO => exact (by (with_reducible repeat (first | apply Kd.R_alloc | apply Kd.R_drewN | apply Kd.R_drew)); exact zA.out)); (case aS => exact (zk (by repeat (first | (with_reducible first | exact HB.out | apply zg | apply zd | apply zh) | exact HB.out)))); (case aL => have := LMc7.out; omega); intro v210 w9 ho hb hg hat; rw [← Ny209.out] at ho; have n0_ := Aside0.mk (hb); have n1_ := Aside0.mk (ho); clear HB; clear zA; have HB := n0_; have zC := n1_; clear n0_ n1_; clear ho hb hg hat))
   go_ret
   exact ⟨_, by first | rfl | (simp [errW_none, errW_some] <;> rfl) | (simp [*, errW_none, errW_some] <;> rfl), by (with_reducible repeat (first | apply Kd.R_alloc | apply Kd.R_drewN | apply Kd.R_drew)); exact zC.out, by repeat (first | (with_reducible first | exact HB.out | apply zg | apply zd | apply zh) | exact HB.out)⟩
  ·rw [if_neg c7] at H
   exact absurd H (by simp)

def spec_EncodeSuper.l0 : Nat → List Int → Int → Int → Int → Int → Int → Option (List Int)
 | 0, _, _, _, _, _, _ => none
 | k + 1, x3, x213000, x213001, x213002, x213003, x213004 => if (x3.length : Int) < 56 then ((some (([0] : List Int) : List Int)).bind fun y244 => (if x3.length + y244.length < 140737488355328 then (spec_EncodeSuper.l0 k (x3 ++ y244) x213000 x213001 x213002 x213003 x213004) else (none))) else ((spec_l4Big.f k x213000 8).bind fun t250 => (if x3.length + t250.length < 140737488355328 then (some (x3 ++ t250)) else (none)))
def spec_EncodeSuper.f (k : Nat) (a0_0 : Int) (a0_1 : Int) (a0_2 : Int) (a0_3 : Int) (a0_4 : Int) : Option (List Int) := (spec_l4ValidSuper.f a0_0 a0_1 a0_2 a0_3 a0_4).bind fun t213 => (if t213 = true then ((spec_l4Big.f k a0_0 8).bind fun t217 => ((some (([(a0_1) % 256] : List Int) : List Int)).bind fun y220 => (if t217.length + y220.length < 140737488355328 then ((some (t217 ++ y220 : List Int)).bind fun y223 => ((spec_l4Big.f k a0_2 4).bind fun t226 => (if y223.length + t226.length < 140737488355328 then ((some (y223 ++ t226 : List Int)).bind fun y229 => ((spec_l4Big.f k a0_3 4).bind fun t232 => (if y229.length + t232.length < 140737488355328 then ((some (y229 ++ t232 : List Int)).bind fun y235 => ((spec_l4Big.f k a0_4 4).bind fun t238 => (if y235.length + t238.length < 140737488355328 then (spec_EncodeSuper.l0 k (y235 ++ t238) a0_0 a0_1 a0_2 a0_3 a0_4) else (none)))) else (none)))) else (none)))) else (none)))) else (some (([] : List Int))))
theorem spec_EncodeSuper.mono_l : ∀ k, (∀ y0 y1 y2 y3 y4 y5, LeO (spec_EncodeSuper.l0 k y0 y1 y2 y3 y4 y5) (spec_EncodeSuper.l0 (k + 1) y0 y1 y2 y3 y4 y5))
 | 0 => fun _ _ _ _ _ _ r h => by simp [spec_EncodeSuper.l0] at h
 | k + 1 => by
  have ih0 := spec_EncodeSuper.mono_l k
  ·intro y0 y1 y2 y3 y4 y5
   unfold spec_EncodeSuper.l0
   repeat' first
   | (with_reducible exact ih0 _ _ _ _ _ _)
   | (with_reducible exact spec_l4Big.mono _ _ _)
   | (with_reducible exact LeO.refl _)
   | (with_reducible exact LeO.none _)
   | (with_reducible refine LeO.ite ?_ ?_)
   | (with_reducible refine LeO.bind ?_ (fun _ => ?_))
   | exact ih0 _ _ _ _ _ _
   | exact spec_l4Big.mono _ _ _
   | exact LeO.none _
   | refine LeO.ite ?_ ?_
   | refine LeO.bind ?_ (fun _ => ?_)
theorem spec_EncodeSuper.mono : ∀ a0 a1 a2 a3 a4 k, LeO (spec_EncodeSuper.f k a0 a1 a2 a3 a4) (spec_EncodeSuper.f (k + 1) a0 a1 a2 a3 a4) := by
 intro a0 a1 a2 a3 a4 k
 have ih0 := spec_EncodeSuper.mono_l k
 unfold spec_EncodeSuper.f
 repeat' first
   | (with_reducible exact ih0 _ _ _ _ _ _)
   | (with_reducible exact spec_l4Big.mono _ _ _)
   | (with_reducible exact LeO.refl _)
   | (with_reducible exact LeO.none _)
   | (with_reducible refine LeO.ite ?_ ?_)
   | (with_reducible refine LeO.bind ?_ (fun _ => ?_))
   | exact ih0 _ _ _ _ _ _
   | exact spec_l4Big.mono _ _ _
   | exact LeO.none _
   | refine LeO.ite ?_ ?_
   | refine LeO.bind ?_ (fun _ => ?_)
def spec_EncodeSuper.T3 : Bool × List (List Nat × List Nat) := (true, [([], []), ([0], [0]), ([1], [1]), ([], []), ([3], [3]), ([4], [4]), ([5], [5]), ([2, 6, 2], [2, 6]), ([7, 7, 0, 1, 2, 3, 4, 5, 6, 7], [7])])
def spec_EncodeSuper.B3 : List Nat := [0, 1, 3, 0, 8, 24, 56, 127, 255]
theorem spec_EncodeSuper.tab3 : rtab .any (opsOf Try.f27 3) = spec_EncodeSuper.T3 := by kernel_rfl
theorem spec_EncodeSuper.bits3 : waitsOk spec_EncodeSuper.T3.2 spec_EncodeSuper.B3 = true := by kernel_rfl
set_option maxHeartbeats 8000000 in
set_option maxRecDepth 100000 in
theorem spec_EncodeSuper.calls (k : Nat) (a0_0 : Int) (a0_1 : Int) (a0_2 : Int) (a0_3 : Int) (a0_4 : Int) (r : List Int) (w : World) (h : spec_EncodeSuper.f k a0_0 a0_1 a0_2 a0_3 a0_4 = some r) :
  Calls Try.prog 27 #[.agg #[.int .i64 a0_0, .int .i64 a0_1, .int .i64 a0_2, .int .i64 a0_3, .int .i64 a0_4]] w fun e w' => ∃ v0_ : Value, e = .returned (v0_) ∧ Kd.R (Kd.int .u8) 5 w' w.heap.size (fun _ => True) v0_ r ∧ Below w.heap.size w w' := by
 have hu52 := Try.underlying52
 have HB := Aside0.mk (Below.refl w.heap.size w)
 have H : ((spec_l4ValidSuper.f a0_0 a0_1 a0_2 a0_3 a0_4).bind fun t213 => (if t213 = true then ((spec_l4Big.f k a0_0 8).bind fun t217 => ((some (([(a0_1) % 256] : List Int) : List Int)).bind fun y220 => (if t217.length + y220.length < 140737488355328 then ((some (t217 ++ y220 : List Int)).bind fun y223 => ((spec_l4Big.f k a0_2 4).bind fun t226 => (if y223.length + t226.length < 140737488355328 then ((some (y223 ++ t226 : List Int)).bind fun y229 => ((spec_l4Big.f k a0_3 4).bind fun t232 => (if y229.length + t232.length < 140737488355328 then ((some (y229 ++ t232 : List Int)).bind fun y235 => ((spec_l4Big.f k a0_4 4).bind fun t238 => (if y235.length + t238.length < 140737488355328 then (spec_EncodeSuper.l0 k (y235 ++ t238) a0_0 a0_1 a0_2 a0_3 a0_4) else (none)))) else (none)))) else (none)))) else (none)))) else (some (([] : List Int))))) = some r := h
 clear h
 replace H := Option.bind_eq_some_iff.mp H
 obtain ⟨t213, A20, H⟩ := H
 replace H : (if t213 = true then ((spec_l4Big.f k a0_0 8).bind fun t217 => ((some (([(a0_1) % 256] : List Int) : List Int)).bind fun y220 => (if t217.length + y220.length < 140737488355328 then ((some (t217 ++ y220 : List Int)).bind fun y223 => ((spec_l4Big.f k a0_2 4).bind fun t226 => (if y223.length + t226.length < 140737488355328 then ((some (y223 ++ t226 : List Int)).bind fun y229 => ((spec_l4Big.f k a0_3 4).bind fun t232 => (if y229.length + t232.length < 140737488355328 then ((some (y229 ++ t232 : List Int)).bind fun y235 => ((spec_l4Big.f k a0_4 4).bind fun t238 => (if y235.length + t238.length < 140737488355328 then (spec_EncodeSuper.l0 k (y235 ++ t238) a0_0 a0_1 a0_2 a0_3 a0_4) else (none)))) else (none)))) else (none)))) else (none)))) else (some (([] : List Int)))) = some r := H
 have A2 := Aside0.mk A20
 clear A20
 by_cases c3 : t213 = true
 ·subst c3
  have H1 : ((spec_l4Big.f k a0_0 8).bind fun t217 => ((some (([(a0_1) % 256] : List Int) : List Int)).bind fun y220 => (if t217.length + y220.length < 140737488355328 then ((some (t217 ++ y220 : List Int)).bind fun y223 => ((spec_l4Big.f k a0_2 4).bind fun t226 => (if y223.length + t226.length < 140737488355328 then ((some (y223 ++ t226 : List Int)).bind fun y229 => ((spec_l4Big.f k a0_3 4).bind fun t232 => (if y229.length + t232.length < 140737488355328 then ((some (y229 ++ t232 : List Int)).bind fun y235 => ((spec_l4Big.f k a0_4 4).bind fun t238 => (if y235.length + t238.length < 140737488355328 then (spec_EncodeSuper.l0 k (y235 ++ t238) a0_0 a0_1 a0_2 a0_3 a0_4) else (none)))) else (none)))) else (none)))) else (none)))) = some r := by rw [if_pos rfl] at H; exact H
  clear H
  have H := H1
  clear H1
  replace H := Option.bind_eq_some_iff.mp H
  obtain ⟨t217, A40, H⟩ := H
  replace H : ((some (([(a0_1) % 256] : List Int) : List Int)).bind fun y220 => (if t217.length + y220.length < 140737488355328 then ((some (t217 ++ y220 : List Int)).bind fun y223 => ((spec_l4Big.f k a0_2 4).bind fun t226 => (if y223.length + t226.length < 140737488355328 then ((some (y223 ++ t226 : List Int)).bind fun y229 => ((spec_l4Big.f k a0_3 4).bind fun t232 => (if y229.length + t232.length < 140737488355328 then ((some (y229 ++ t232 : List Int)).bind fun y235 => ((spec_l4Big.f k a0_4 4).bind fun t238 => (if y235.length + t238.length < 140737488355328 then (spec_EncodeSuper.l0 k (y235 ++ t238) a0_0 a0_1 a0_2 a0_3 a0_4) else (none)))) else (none)))) else (none)))) else (none))) = some r := H
  have A4 := Aside0.mk A40
  clear A40
  obtain ⟨y220, hy220⟩ : ∃ y_ : List Int, y_ = (([(a0_1) % 256] : List Int)) := ⟨_, rfl⟩
  replace H : (if t217.length + y220.length < 140737488355328 then ((some (t217 ++ y220 : List Int)).bind fun y223 => ((spec_l4Big.f k a0_2 4).bind fun t226 => (if y223.length + t226.length < 140737488355328 then ((some (y223 ++ t226 : List Int)).bind fun y229 => ((spec_l4Big.f k a0_3 4).bind fun t232 => (if y229.length + t232.length < 140737488355328 then ((some (y229 ++ t232 : List Int)).bind fun y235 => ((spec_l4Big.f k a0_4 4).bind fun t238 => (if y235.length + t238.length < 140737488355328 then (spec_EncodeSuper.l0 k (y235 ++ t238) a0_0 a0_1 a0_2 a0_3 a0_4) else (none)))) else (none)))) else (none)))) else (none)) = some r := by first | (rw [hy220]; with_reducible exact H) | (have H2_ := (Option.bind_some _ _).symm.trans H; rw [hy220]; with_reducible exact H2_) | (have H2_ := (Option.bind_some _ _).symm.trans H; with_reducible exact H2_) | with_reducible exact H | (rw [hy220]; exact H) | exact H
  have Ny220 := Aside0.mk hy220
  clear hy220
  by_cases c5 : t217.length + y220.length < 140737488355328
  ·rw [if_pos c5] at H
   have LMc5 := Aside0.mk c5
   clear c5
   obtain ⟨y223, hy223⟩ : ∃ y_ : List Int, y_ = (t217 ++ y220) := ⟨_, rfl⟩
   replace H : ((spec_l4Big.f k a0_2 4).bind fun t226 => (if y223.length + t226.length < 140737488355328 then ((some (y223 ++ t226 : List Int)).bind fun y229 => ((spec_l4Big.f k a0_3 4).bind fun t232 => (if y229.length + t232.length < 140737488355328 then ((some (y229 ++ t232 : List Int)).bind fun y235 => ((spec_l4Big.f k a0_4 4).bind fun t238 => (if y235.length + t238.length < 140737488355328 then (spec_EncodeSuper.l0 k (y235 ++ t238) a0_0 a0_1 a0_2 a0_3 a0_4) else (none)))) else (none)))) else (none))) = some r := by first | (rw [hy223]; with_reducible exact H) | (have H2_ := (Option.bind_some _ _).symm.trans H; rw [hy223]; with_reducible exact H2_) | (have H2_ := (Option.bind_some _ _).symm.trans H; with_reducible exact H2_) | with_reducible exact H | (rw [hy223]; exact H) | exact H
   have Ny223 := Aside0.mk hy223
   clear hy223
   replace H := Option.bind_eq_some_iff.mp H
   obtain ⟨t226, A60, H⟩ := H
   replace H : (if y223.length + t226.length < 140737488355328 then ((some (y223 ++ t226 : List Int)).bind fun y229 => ((spec_l4Big.f k a0_3 4).bind fun t232 => (if y229.length + t232.length < 140737488355328 then ((some (y229 ++ t232 : List Int)).bind fun y235 => ((spec_l4Big.f k a0_4 4).bind fun t238 => (if y235.length + t238.length < 140737488355328 then (spec_EncodeSuper.l0 k (y235 ++ t238) a0_0 a0_1 a0_2 a0_3 a0_4) else (none)))) else (none)))) else (none)) = some r := H
   have A6 := Aside0.mk A60
   clear A60
   by_cases c7 : y223.length + t226.length < 140737488355328
   ·rw [if_pos c7] at H
    have LMc7 := Aside0.mk c7
    clear c7
    obtain ⟨y229, hy229⟩ : ∃ y_ : List Int, y_ = (y223 ++ t226) := ⟨_, rfl⟩
    replace H : ((spec_l4Big.f k a0_3 4).bind fun t232 => (if y229.length + t232.length < 140737488355328 then ((some (y229 ++ t232 : List Int)).bind fun y235 => ((spec_l4Big.f k a0_4 4).bind fun t238 => (if y235.length + t238.length < 140737488355328 then (spec_EncodeSuper.l0 k (y235 ++ t238) a0_0 a0_1 a0_2 a0_3 a0_4) else (none)))) else (none))) = some r := by first | (rw [hy229]; with_reducible exact H) | (have H2_ := (Option.bind_some _ _).symm.trans H; rw [hy229]; with_reducible exact H2_) | (have H2_ := (Option.bind_some _ _).symm.trans H; with_reducible exact H2_) | with_reducible exact H | (rw [hy229]; exact H) | exact H
    have Ny229 := Aside0.mk hy229
    clear hy229
    replace H := Option.bind_eq_some_iff.mp H
    obtain ⟨t232, A80, H⟩ := H
    replace H : (if y229.length + t232.length < 140737488355328 then ((some (y229 ++ t232 : List Int)).bind fun y235 => ((spec_l4Big.f k a0_4 4).bind fun t238 => (if y235.length + t238.length < 140737488355328 then (spec_EncodeSuper.l0 k (y235 ++ t238) a0_0 a0_1 a0_2 a0_3 a0_4) else (none)))) else (none)) = some r := H
    have A8 := Aside0.mk A80
    clear A80
    by_cases c9 : y229.length + t232.length < 140737488355328
    ·rw [if_pos c9] at H
     have LMc9 := Aside0.mk c9
     clear c9
     obtain ⟨y235, hy235⟩ : ∃ y_ : List Int, y_ = (y229 ++ t232) := ⟨_, rfl⟩
     replace H : ((spec_l4Big.f k a0_4 4).bind fun t238 => (if y235.length + t238.length < 140737488355328 then (spec_EncodeSuper.l0 k (y235 ++ t238) a0_0 a0_1 a0_2 a0_3 a0_4) else (none))) = some r := by first | (rw [hy235]; with_reducible exact H) | (have H2_ := (Option.bind_some _ _).symm.trans H; rw [hy235]; with_reducible exact H2_) | (have H2_ := (Option.bind_some _ _).symm.trans H; with_reducible exact H2_) | with_reducible exact H | (rw [hy235]; exact H) | exact H
     have Ny235 := Aside0.mk hy235
     clear hy235
     replace H := Option.bind_eq_some_iff.mp H
     obtain ⟨t238, A100, H⟩ := H
     replace H : (if y235.length + t238.length < 140737488355328 then (spec_EncodeSuper.l0 k (y235 ++ t238) a0_0 a0_1 a0_2 a0_3 a0_4) else (none)) = some r := H
     have A10 := Aside0.mk A100
     clear A100
     by_cases c11 : y235.length + t238.length < 140737488355328
     ·rw [if_pos c11] at H
      have LMc11 := Aside0.mk c11
      clear c11
      obtain ⟨y241, hy241⟩ : ∃ y_ : List Int, y_ = (y235 ++ t238) := ⟨_, rfl⟩
      replace H : (spec_EncodeSuper.l0 k y241 a0_0 a0_1 a0_2 a0_3 a0_4) = some r := by first | (rw [hy241]; with_reducible exact H) | (have H2_ := (Option.bind_some _ _).symm.trans H; rw [hy241]; with_reducible exact H2_) | (have H2_ := (Option.bind_some _ _).symm.trans H; with_reducible exact H2_) | with_reducible exact H | (rw [hy241]; exact H) | exact H
      have Ny241 := Aside0.mk hy241
      clear hy241
      have H' := Aside0.mk H
      clear H
      go_enter Try.func27, Try.ntmps27
      try go_wp2_with (first | ((with_reducible refine zu (N := 1) rfl ?_); refine zy ?hg (N := 1) ?hd (cs := #[.int .i64 a0_0, .int .i64 a0_1, .int .i64 a0_2, .int .i64 a0_3, .int .i64 a0_4]) (t := 52) ?hr ?_; (case hd => rfl); (case hg => rfl); (case hr => first | (go_simp; done) | (go_simp; rfl)); intro zA hg w12 hbox hb; have n0_ := Aside0.mk (zl (by repeat (first | (with_reducible first | exact HB.out | apply zg | apply zd | apply zh) | exact HB.out)) hb); have n1_ := Aside0.mk (hbox); have n2_ := Aside0.mk ((by rw [hg]; exact (zk (by repeat (first | (with_reducible first | exact HB.out | apply zg | apply zd | apply zh) | exact HB.out))) : w.heap.size ≤ zA)); have n3_ := Aside0.mk ((by rw [hg]; exact (zk (by repeat (first | (with_reducible first | exact HB.out | apply zg | apply zd | apply zh) | exact HB.out))) : w.heap.size ≤ zA)); clear HB; have HB := n0_; have zz := n1_; have GW212 := n2_; have zB := n3_; clear n0_ n1_ n2_ n3_; clear hb hbox hg; have zS : w12.cell? ⟨zA, 0, none⟩ = some (.int .i64 a0_0) := (zc zz.out 0).trans rfl; have zT : w12.cell? ⟨zA, 1, none⟩ = some (.int .i64 a0_1) := (zc zz.out 1).trans rfl; have zU : w12.cell? ⟨zA, 2, none⟩ = some (.int .i64 a0_2) := (zc zz.out 2).trans rfl; have zV : w12.cell? ⟨zA, 3, none⟩ = some (.int .i64 a0_3) := (zc zz.out 3).trans rfl; have zW : w12.cell? ⟨zA, 4, none⟩ = some (.int .i64 a0_4) := (zc zz.out 4).trans rfl; have zX := zb zz.out 0; have zY := zb zz.out 1; have zZ := zb zz.out 2; have zab := zb zz.out 3; have zbb := zb zz.out 4) | ((with_reducible refine zo (f := 54) rfl ?_); refine goesL_ (some 5) rfl rfl Try.func54 (by kernel_rfl) rfl #[.agg #[.int .i64 a0_0, .int .i64 a0_1, .int .i64 a0_2, .int .i64 a0_3, .int .i64 a0_4]] rfl (by (try simp only [List.map_toArray, List.map_cons, List.map_nil]); first | done | rfl | (simp only [List.length_drop, List.length_take]; rfl)) ?_; (with_reducible refine (spec_l4ValidSuper.calls a0_0 a0_1 a0_2 a0_3 a0_4 true _ A2.out).mono ?_); rintro e w14 ⟨rfl, hb⟩; refine ⟨_, rfl, ?_⟩; have n0_ := Aside0.mk (zr (g := zA) (o := .cells #[.int .i64 a0_0, .int .i64 a0_1, .int .i64 a0_2, .int .i64 a0_3, .int .i64 a0_4] 52 (0, 0)) (by (with_reducible repeat (first | refine zf ?_ _ | refine zi ?_ | refine ze ?_ _)); exact zz.out) hb); have n1_ := Aside0.mk (zl (by repeat (first | (with_reducible first | exact HB.out | apply zg | apply zd | apply zh | refine zj ?_ zB.out) | exact HB.out)) hb); clear zz; clear HB; have zz := n0_; have HB := n1_; clear n0_ n1_; (try clear hb); (try clear hb2); (try clear hk); (try clear hi)))
      have n0_ := Aside0.mk (zi zz.out)
      have n1_ := Aside0.mk (zh HB.out)
      clear zz
      clear HB
      have zz := n0_
      have HB := n1_
      clear n0_ n1_
      refine start_ (n := 9) (S := fun w' => w'.cell? ⟨zA, 0, none⟩ = some (.int .i64 a0_0) ∧ w'.cell? ⟨zA, 1, none⟩ = some (.int .i64 a0_1) ∧ w'.cell? ⟨zA, 2, none⟩ = some (.int .i64 a0_2) ∧ w'.cell? ⟨zA, 3, none⟩ = some (.int .i64 a0_3) ∧ w'.cell? ⟨zA, 4, none⟩ = some (.int .i64 a0_4)) (ds := []) #[false, false, false, false, false, false, false, false, false] (by kernel_rfl) rfl rfl ⟨(zc zz.out 0).trans rfl, (zc zz.out 1).trans rfl, (zc zz.out 2).trans rfl, (zc zz.out 3).trans rfl, (zc zz.out 4).trans rfl⟩ (fun hHeld => ?_); refine with_tabW spec_EncodeSuper.tab3 spec_EncodeSuper.bits3 (fun HT_ HW_ => ?_)
      generalize w14.drew = w15 at zz HB hHeld ⊢
      refine pure_ (i := 0) (N := some 8) (v := ?_) (a' := ?_) #[true, false, false, false, false, false, false, false, false] rfl rfl (any_of HT_.out (by kernel_rfl)) (fun _ _ _ h => h) (Or.inl ⟨by rfl, ?_⟩) ?_ ?_
      rotate_left
      ·intro w'
       go_simp
       with_reducible rfl
      rotate_left
      ·simp only [Act.put, List.setIfInBounds_toArray, List.set_cons_zero, List.set_cons_succ, zv, zx]
       rfl
      refine pure_ (i := 3) (N := some 11) (v := ?_) (a' := ?_) #[true, false, false, true, false, false, false, false, false] rfl rfl (any_of HT_.out (by kernel_rfl)) (fun _ _ _ h => h) (Or.inl ⟨by rfl, ?_⟩) ?_ ?_
      rotate_left
      ·intro w'
       go_simp
       with_reducible rfl
      rotate_left
      ·simp only [Act.put, List.setIfInBounds_toArray, List.set_cons_zero, List.set_cons_succ, zv, zx]
       rfl
      refine take_ (i := 1) (N := some 9) (v := ?_) (a' := ?_) #[true, true, false, true, false, false, false, false, false] rfl rfl (take_ofW HT_.out HW_.out (by kernel_rfl)) (fun _ _ _ h => h) (Or.inl ⟨by rfl, ?_⟩) hHeld ?_ ?_
      rotate_left
      ·rintro w' ⟨s0, s1, s2, s3, s4⟩
       go_simp
       with_reducible rfl
      rotate_left
      ·simp only [Act.put, List.setIfInBounds_toArray, List.set_cons_zero, List.set_cons_succ, zv, zx]
       rfl
      refine take_ (i := 4) (N := some 12) (v := ?_) (a' := ?_) #[true, true, false, true, true, false, false, false, false] rfl rfl (take_ofW HT_.out HW_.out (by kernel_rfl)) (fun _ _ _ h => h) (Or.inl ⟨by rfl, ?_⟩) hHeld ?_ ?_
      rotate_left
      ·rintro w' ⟨s0, s1, s2, s3, s4⟩
       go_simp
       with_reducible rfl
      rotate_left
      ·simp only [Act.put, List.setIfInBounds_toArray, List.set_cons_zero, List.set_cons_succ, zv, zx]
       rfl
      refine pure_ (i := 5) (N := some 13) (v := ?_) (a' := ?_) #[true, true, false, true, true, true, false, false, false] rfl rfl (any_of HT_.out (by kernel_rfl)) (fun _ _ _ h => h) (Or.inl ⟨by rfl, ?_⟩) ?_ ?_
      rotate_left
      ·intro w'
       go_simp
       with_reducible rfl
      rotate_left
      ·simp only [Act.put, List.setIfInBounds_toArray, List.set_cons_zero, List.set_cons_succ, zv, zx]
       rfl
      refine join_ (σ := Value × Value) 2 #[true, true, true, true, true, true, true, false, false] (fun s_ => [(10, s_.1), (14, s_.2)]) (fun s_ w' => (w'.cell? ⟨zA, 0, none⟩ = some (.int .i64 a0_0) ∧ w'.cell? ⟨zA, 1, none⟩ = some (.int .i64 a0_1) ∧ w'.cell? ⟨zA, 2, none⟩ = some (.int .i64 a0_2) ∧ w'.cell? ⟨zA, 3, none⟩ = some (.int .i64 a0_3) ∧ w'.cell? ⟨zA, 4, none⟩ = some (.int .i64 a0_4)) ∧ (Kd.R (Kd.int .u8) 5 w' w.heap.size (fun k_ => some k_ ≠ (s_.2 : Value).ownBlock) s_.1 t217) ∧ (Kd.R (Kd.int .u8) 5 w' w.heap.size (fun k_ => some k_ ≠ (s_.1 : Value).ownBlock) s_.2 y220) ∧ (w'.heap[zA]? = some (.cells #[.int .i64 a0_0, .int .i64 a0_1, .int .i64 a0_2, .int .i64 a0_3, .int .i64 a0_4] 52 (0, 0))) ∧ (Below w.heap.size w w')) ?_ ?_
      rotate_left
      ·intro hCont
       refine two_ (i := 2) (j := 6) (Ni := some 10) (Nj := some 14) #[true, true, true, true, true, true, false, false, false] #[true, true, false, true, true, true, true, false, false] rfl rfl rfl rfl (two_of HT_.out (by kernel_rfl)) (by decide) (by decide) (fun K hK => ?_) (fun K hK => ?_)
       ·skip
        refine goes_ Try.func55 (by kernel_rfl) rfl #[.int .i64 a0_0, .int .i64 8] (by rfl) rfl rfl (by (try simp only [List.map_toArray, List.map_cons, List.map_nil]); first | done | rfl | (simp only [List.length_drop, List.length_take]; rfl)) ?_
        with_reducible refine (spec_l4Big.calls k a0_0 8 t217 _ A4.out).mono ?_
        rintro e w16 ⟨v218, rfl, zE, hb⟩
        refine ⟨_, rfl, ?_⟩
        have n0_ := Aside0.mk (Kd.R_lower zE (zk (by repeat (first | (with_reducible first | exact HB.out | apply zg | apply zd | apply zh | refine zj ?_ zB.out) | exact HB.out))))
        have n1_ := Aside0.mk (zr (g := zA) (o := .cells #[.int .i64 a0_0, .int .i64 a0_1, .int .i64 a0_2, .int .i64 a0_3, .int .i64 a0_4] 52 (0, 0)) (by (with_reducible repeat (first | refine zf ?_ _ | refine zi ?_ | refine ze ?_ _)); exact zz.out) hb)
        have n2_ := Aside0.mk (zl (by repeat (first | (with_reducible first | exact HB.out | apply zg | apply zd | apply zh | refine zj ?_ zB.out) | exact HB.out)) hb)
        clear zz
        clear HB
        have zH := n0_
        have zz := n1_
        have HB := n2_
        clear n0_ n1_ n2_
        (try clear hb)
        (try clear hb2)
        (try clear hk)
        (try clear hi)
        (try clear zE)
        refine hK.out _ _ ⟨(zc zz.out 0).trans rfl, (zc zz.out 1).trans rfl, (zc zz.out 2).trans rfl, (zc zz.out 3).trans rfl, (zc zz.out 4).trans rfl⟩ (fun hHeld => ?_)
        clear hK K
        refine norm_ (a' := ?_) ?_ ?_
        rotate_left
        ·show Act.put _ (some 10) _ = _
         simp only [Act.put, List.setIfInBounds_toArray, List.set_cons_zero, List.set_cons_succ, zv, zx]
         rfl
        refine one_ (i := 6) (N := some 14) #[true, true, true, true, true, true, true, false, false] rfl rfl (one_of HT_.out (by kernel_rfl)) (by decide) (fun K hK => ?_)
        refine Kd.R_lit_step (Kd.int .u8) _ 5 ?hg (N := 14) ?hd (xs := ([(a0_1) % 256] : List Int)) (inner := [.int .u8 ((a0_1) % 256)]) (ok := fun _ => True) (okp := fun _ => True) ?hr ?hp (fun _ hk => hk) trivial (Below.refl _ _) (Nat.le_refl _) (by simp) ?_; (case hd => rfl); (case hg => rfl); (case hr => first | (go_simp; done) | (go_simp; rfl)); (case hp => exact (Reps.one (show Kd.M (Kd.int .u8) _ _ _ ((a0_1) % 256) [.int .u8 ((a0_1) % 256)] from rfl) (Reps.none _ _)))
        intro v221 w17 zO hb hg_ hnew_
        clear hg_ hnew_
        (first | rw [← Ny220.out] at zO | (simp only [Int.reduceToNat] at zO; rw [← Ny220.out] at zO))
        have n0_ := Aside0.mk (Kd.R_elder' (by (with_reducible repeat (first | apply Kd.R_alloc | apply Kd.R_drewN | apply Kd.R_drew)); exact zH.out) (Kd.R_base zO) hb)
        have n1_ := Aside0.mk (Kd.R_lower (Kd.R_new' zO (Kd.R_lt (by (with_reducible repeat (first | apply Kd.R_alloc | apply Kd.R_drewN | apply Kd.R_drew)); exact zH.out))) (zk (by repeat (first | (with_reducible first | exact HB.out | apply zg | apply zd | apply zh | refine zj ?_ zB.out) | exact HB.out))))
        have n2_ := Aside0.mk (zr (g := zA) (o := .cells #[.int .i64 a0_0, .int .i64 a0_1, .int .i64 a0_2, .int .i64 a0_3, .int .i64 a0_4] 52 (0, 0)) (by (with_reducible repeat (first | refine zf ?_ _ | refine zi ?_ | refine ze ?_ _)); exact zz.out) hb)
        have n3_ := Aside0.mk (zl (by repeat (first | (with_reducible first | exact HB.out | apply zg | apply zd | apply zh | refine zj ?_ zB.out) | exact HB.out)) hb)
        clear zH
        clear zz
        clear HB
        have zH := n0_
        have zC := n1_
        have zz := n2_
        have HB := n3_
        clear n0_ n1_ n2_ n3_
        clear hb zO
        refine hK.out _ _ ⟨(zc zz.out 0).trans rfl, (zc zz.out 1).trans rfl, (zc zz.out 2).trans rfl, (zc zz.out 3).trans rfl, (zc zz.out 4).trans rfl⟩ (fun hHeld => ?_)
        clear hK K
        refine norm_ (a' := ?_) ?_ ?_
        rotate_left
        ·show Act.put _ (some 14) _ = _
         simp only [Act.put, List.setIfInBounds_toArray, List.set_cons_zero, List.set_cons_succ, zv, zx]
         rfl
        exact norm_ (by simp only [putAll, Act.put, List.setIfInBounds_toArray, List.set_cons_zero, List.set_cons_succ]) (hCont (v218, v221) _ ⟨hHeld, (by (with_reducible repeat (first | apply Kd.R_alloc | apply Kd.R_drewN | apply Kd.R_drew)); exact Kd.R_mono zH.out (fun _ hk => hk.2)), (by (with_reducible repeat (first | apply Kd.R_alloc | apply Kd.R_drewN | apply Kd.R_drew)); exact Kd.R_mono zC.out (fun _ hk => hk.2)), (by (with_reducible repeat (first | refine zf ?_ _ | refine zi ?_ | refine ze ?_ _)); exact zz.out), (by repeat (first | (with_reducible first | exact HB.out | apply zg | apply zd | apply zh | refine zj ?_ zB.out) | exact HB.out))⟩)
       ·skip
        refine Kd.R_lit_step (Kd.int .u8) _ 5 ?hg (N := 14) ?hd (xs := ([(a0_1) % 256] : List Int)) (inner := [.int .u8 ((a0_1) % 256)]) (ok := fun _ => True) (okp := fun _ => True) ?hr ?hp (fun _ hk => hk) trivial (Below.refl _ _) (Nat.le_refl _) (by simp) ?_; (case hd => rfl); (case hg => rfl); (case hr => first | (go_simp; done) | (go_simp; rfl)); (case hp => exact (Reps.one (show Kd.M (Kd.int .u8) _ _ _ ((a0_1) % 256) [.int .u8 ((a0_1) % 256)] from rfl) (Reps.none _ _)))
        intro v221 w16 zQ hb hg_ hnew_
        clear hg_ hnew_
        (first | rw [← Ny220.out] at zQ | (simp only [Int.reduceToNat] at zQ; rw [← Ny220.out] at zQ))
        have n0_ := Aside0.mk (Kd.R_lower zQ (zk (by repeat (first | (with_reducible first | exact HB.out | apply zg | apply zd | apply zh | refine zj ?_ zB.out) | exact HB.out))))
        have n1_ := Aside0.mk (zr (g := zA) (o := .cells #[.int .i64 a0_0, .int .i64 a0_1, .int .i64 a0_2, .int .i64 a0_3, .int .i64 a0_4] 52 (0, 0)) (by (with_reducible repeat (first | refine zf ?_ _ | refine zi ?_ | refine ze ?_ _)); exact zz.out) hb)
        have n2_ := Aside0.mk (zl (by repeat (first | (with_reducible first | exact HB.out | apply zg | apply zd | apply zh | refine zj ?_ zB.out) | exact HB.out)) hb)
        clear zz
        clear HB
        have zC := n0_
        have zz := n1_
        have HB := n2_
        clear n0_ n1_ n2_
        clear hb zQ
        refine hK.out _ _ ⟨(zc zz.out 0).trans rfl, (zc zz.out 1).trans rfl, (zc zz.out 2).trans rfl, (zc zz.out 3).trans rfl, (zc zz.out 4).trans rfl⟩ (fun hHeld => ?_)
        clear hK K
        refine norm_ (a' := ?_) ?_ ?_
        rotate_left
        ·show Act.put _ (some 14) _ = _
         simp only [Act.put, List.setIfInBounds_toArray, List.set_cons_zero, List.set_cons_succ, zv, zx]
         rfl
        refine one_ (i := 2) (N := some 10) #[true, true, true, true, true, true, true, false, false] rfl rfl (one_of HT_.out (by kernel_rfl)) (by decide) (fun K hK => ?_)
        refine goes_ Try.func55 (by kernel_rfl) rfl #[.int .i64 a0_0, .int .i64 8] (by rfl) rfl rfl (by (try simp only [List.map_toArray, List.map_cons, List.map_nil]); first | done | rfl | (simp only [List.length_drop, List.length_take]; rfl)) ?_
        with_reducible refine (spec_l4Big.calls k a0_0 8 t217 _ A4.out).mono ?_
        rintro e w18 ⟨v218, rfl, zE, hb⟩
        refine ⟨_, rfl, ?_⟩
        have n0_ := Aside0.mk (Kd.R_elder' (by (with_reducible repeat (first | apply Kd.R_alloc | apply Kd.R_drewN | apply Kd.R_drew)); exact zC.out) (Kd.R_base zE) hb)
        have n1_ := Aside0.mk (Kd.R_lower (Kd.R_new' zE (Kd.R_lt (by (with_reducible repeat (first | apply Kd.R_alloc | apply Kd.R_drewN | apply Kd.R_drew)); exact zC.out))) (zk (by repeat (first | (with_reducible first | exact HB.out | apply zg | apply zd | apply zh | refine zj ?_ zB.out) | exact HB.out))))
        have n2_ := Aside0.mk (zr (g := zA) (o := .cells #[.int .i64 a0_0, .int .i64 a0_1, .int .i64 a0_2, .int .i64 a0_3, .int .i64 a0_4] 52 (0, 0)) (by (with_reducible repeat (first | refine zf ?_ _ | refine zi ?_ | refine ze ?_ _)); exact zz.out) hb)
        have n3_ := Aside0.mk (zl (by repeat (first | (with_reducible first | exact HB.out | apply zg | apply zd | apply zh | refine zj ?_ zB.out) | exact HB.out)) hb)
        clear zC
        clear zz
        clear HB
        have zC := n0_
        have zH := n1_
        have zz := n2_
        have HB := n3_
        clear n0_ n1_ n2_ n3_
        (try clear hb)
        (try clear hb2)
        (try clear hk)
        (try clear hi)
        (try clear zE)
        refine hK.out _ _ ⟨(zc zz.out 0).trans rfl, (zc zz.out 1).trans rfl, (zc zz.out 2).trans rfl, (zc zz.out 3).trans rfl, (zc zz.out 4).trans rfl⟩ (fun hHeld => ?_)
        clear hK K
        refine norm_ (a' := ?_) ?_ ?_
        rotate_left
        ·show Act.put _ (some 10) _ = _
         simp only [Act.put, List.setIfInBounds_toArray, List.set_cons_zero, List.set_cons_succ, zv, zx]
         rfl
        exact norm_ (by simp only [putAll, Act.put, List.setIfInBounds_toArray, List.set_cons_zero, List.set_cons_succ]) (hCont (v218, v221) _ ⟨hHeld, (by (with_reducible repeat (first | apply Kd.R_alloc | apply Kd.R_drewN | apply Kd.R_drew)); exact Kd.R_mono zH.out (fun _ hk => hk.2)), (by (with_reducible repeat (first | apply Kd.R_alloc | apply Kd.R_drewN | apply Kd.R_drew)); exact Kd.R_mono zC.out (fun _ hk => hk.2)), (by (with_reducible repeat (first | refine zf ?_ _ | refine zi ?_ | refine ze ?_ _)); exact zz.out), (by repeat (first | (with_reducible first | exact HB.out | apply zg | apply zd | apply zh | refine zj ?_ zB.out) | exact HB.out))⟩)
      rintro ⟨v218, v221⟩ w19 ⟨hS_, h0_, h1_, h2_, h3_⟩
      have n0_ : Aside0 (Kd.R (Kd.int .u8) 5 w19 w.heap.size (fun k_ => some k_ ≠ (v221 : Value).ownBlock) v218 t217) := ⟨h0_⟩
      have n1_ : Aside0 (Kd.R (Kd.int .u8) 5 w19 w.heap.size (fun k_ => some k_ ≠ (v218 : Value).ownBlock) v221 y220) := ⟨h1_⟩
      have n2_ : Aside0 (w19.heap[zA]? = some (.cells #[.int .i64 a0_0, .int .i64 a0_1, .int .i64 a0_2, .int .i64 a0_3, .int .i64 a0_4] 52 (0, 0))) := ⟨h2_⟩
      have n3_ : Aside0 (Below w.heap.size w w19) := ⟨h3_⟩
      clear zz
      clear HB
      clear h0_ h1_ h2_ h3_
      have zH := n0_
      have zC := n1_
      have zz := n2_
      have HB := n3_
      clear n0_ n1_ n2_ n3_
      have hHeld : w19.cell? ⟨zA, 0, none⟩ = some (.int .i64 a0_0) ∧ w19.cell? ⟨zA, 1, none⟩ = some (.int .i64 a0_1) ∧ w19.cell? ⟨zA, 2, none⟩ = some (.int .i64 a0_2) ∧ w19.cell? ⟨zA, 3, none⟩ = some (.int .i64 a0_3) ∧ w19.cell? ⟨zA, 4, none⟩ = some (.int .i64 a0_4) := hS_
      obtain ⟨Ao21, co21, eo21⟩ := Kd.R_slice zC.out
      (first | subst eo21 | (injection eo21 with f1_ f2_ f3_; have f4_ := f1_.symm; have f5_ := f3_.symm; clear f1_ f2_ f3_; subst f4_; subst f5_))
      refine norm_ (a' := ?_) ?_ ?_
      rotate_left
      ·simp only [putAll, Act.put, List.setIfInBounds_toArray, List.set_cons_zero, List.set_cons_succ]
       rfl
      refine one_ (i := 7) (N := some 15) #[true, true, true, true, true, true, true, true, false] rfl rfl (one_of HT_.out (by kernel_rfl)) (by decide) (fun K hK => ?_)
      refine Kd.R_append_rows_step (Kd.int .u8) (w0 := w) w.heap.size (by rfl) (.tmp 10) (.tmp 14) 22 5 (.int .u8 0) 1 rfl Try.underlying22 info5 rfl (by decide) (by omega) v218 t217 y220 _ _ _ (fun k_ => some k_ ≠ (.slice Ao21 y220.length co21 : Value).ownBlock) (fun _ => False) rfl rfl ?aO ?aR (fun _ _ h => h) (fun _ h => h.elim) ?aF ?aB ?aS ?aL ?_
      (case aR => repeat (first | exact (Kd.R_reads' zC.out).2.2 | (with_reducible refine Kd.C_alloc ?_ _) | (with_reducible refine Kd.C_drewN ?_ _) | (with_reducible refine Kd.C_drew ?_)))
      (case aB => exact (by repeat (first | (with_reducible first | exact HB.out | apply zg | apply zd | apply zh | refine zj ?_ zB.out) | exact HB.out)))
      (case aF => exact (fun k_ hk => Kd.fresh' (Kd.R_lt (by (with_reducible repeat (first | apply Kd.R_alloc | apply Kd.R_drewN | apply Kd.R_drew)); exact zC.out)) k_ hk))
      (case aO => exact (by (with_reducible repeat (first | apply Kd.R_alloc | apply Kd.R_drewN | apply Kd.R_drew)); exact zH.out))
      (case aS => exact (zk (by repeat (first | (with_reducible first | exact HB.out | apply zg | apply zd | apply zh | refine zj ?_ zB.out) | exact HB.out))))
      (case aL => have := LMc5.out; omega)
      intro v224 w20 ho hb hg hat
      rw [← Ny223.out] at ho
      have n0_ := Aside0.mk (blk_grown (g := zA) (o := .cells #[.int .i64 a0_0, .int .i64 a0_1, .int .i64 a0_2, .int .i64 a0_3, .int .i64 a0_4] 52 (0, 0)) (by (with_reducible repeat (first | refine zf ?_ _ | refine zi ?_ | refine ze ?_ _)); exact zz.out) hg (Kd.R_ne zH.out zz.out (by decide)))
      have n1_ := Aside0.mk (Kd.R_after (ok := (fun _ => True)) (by (with_reducible repeat (first | apply Kd.R_alloc | apply Kd.R_drewN | apply Kd.R_drew)); exact Kd.R_mono zC.out (fun _ hk => ⟨trivial, hk⟩)) hg hat)
      have n2_ := Aside0.mk (hb)
      have n3_ := Aside0.mk (ho)
      clear zz
      clear zC
      clear HB
      clear zH
      have zz := n0_
      have zC := n1_
      have HB := n2_
      have zI := n3_
      clear n0_ n1_ n2_ n3_
      clear ho hb hg hat
      refine hK.out _ _ ⟨(zc zz.out 0).trans rfl, (zc zz.out 1).trans rfl, (zc zz.out 2).trans rfl, (zc zz.out 3).trans rfl, (zc zz.out 4).trans rfl⟩ (fun hHeld => ?_)
      clear hK K
      refine norm_ (a' := ?_) ?_ ?_
      rotate_left
      ·show Act.put _ (some 15) _ = _
       simp only [Act.put, List.setIfInBounds_toArray, List.set_cons_zero, List.set_cons_succ, zv, zx]
       rfl
      refine pure_ (i := 8) (N := some 3) (v := ?_) (a' := ?_) #[true, true, true, true, true, true, true, true, true] rfl rfl (any_of HT_.out (by kernel_rfl)) (fun _ _ _ h => h) (Or.inl ⟨by rfl, ?_⟩) ?_ ?_
      rotate_left
      ·intro w'
       go_simp
       with_reducible rfl
      rotate_left
      ·simp only [Act.put, List.setIfInBounds_toArray, List.set_cons_zero, List.set_cons_succ, zv, zx]
       rfl
      refine done_ (done_of HT_.out (by kernel_rfl)) ?_
      have zcb : w20.cell? ⟨zA, 0, none⟩ = some (.int .i64 a0_0) := (zc zz.out 0).trans rfl
      have zdb : w20.cell? ⟨zA, 1, none⟩ = some (.int .i64 a0_1) := (zc zz.out 1).trans rfl
      have zeb : w20.cell? ⟨zA, 2, none⟩ = some (.int .i64 a0_2) := (zc zz.out 2).trans rfl
      have zfb : w20.cell? ⟨zA, 3, none⟩ = some (.int .i64 a0_3) := (zc zz.out 3).trans rfl
      have zgb : w20.cell? ⟨zA, 4, none⟩ = some (.int .i64 a0_4) := (zc zz.out 4).trans rfl
      have zhb := zb zz.out 0
      have zib := zb zz.out 1
      have zjb := zb zz.out 2
      have zkb := zb zz.out 3
      have zlb := zb zz.out 4
      try go_wp2_with (first | ((with_reducible refine zo (f := 55) rfl ?_); refine goesL_ (some 19) rfl rfl Try.func55 (by kernel_rfl) rfl #[.int .i64 a0_2, .int .i64 4] rfl (by (try simp only [List.map_toArray, List.map_cons, List.map_nil]); first | done | rfl | (simp only [List.length_drop, List.length_take]; rfl)) ?_; (with_reducible refine (spec_l4Big.calls k a0_2 4 t226 _ A6.out).mono ?_); rintro e w23 ⟨v227, rfl, zE, hb⟩; refine ⟨_, rfl, ?_⟩; have n0_ := Aside0.mk (Kd.R_elder' (by (with_reducible repeat (first | apply Kd.R_alloc | apply Kd.R_drewN | apply Kd.R_drew)); exact zC.out) (Kd.R_base zE) hb); have n1_ := Aside0.mk (Kd.R_elder' (by (with_reducible repeat (first | apply Kd.R_alloc | apply Kd.R_drewN | apply Kd.R_drew)); exact zI.out) (Kd.R_base zE) hb); have n2_ := Aside0.mk (Kd.R_lower (Kd.R_new' (Kd.R_new' zE (Kd.R_lt (by (with_reducible repeat (first | apply Kd.R_alloc | apply Kd.R_drewN | apply Kd.R_drew)); exact zC.out))) (Kd.R_lt (by (with_reducible repeat (first | apply Kd.R_alloc | apply Kd.R_drewN | apply Kd.R_drew)); exact zI.out))) (zk (by repeat (first | (with_reducible first | exact HB.out | apply zg | apply zd | apply zh | refine zj ?_ zB.out) | exact HB.out)))); have n3_ := Aside0.mk (zr (g := zA) (o := .cells #[.int .i64 a0_0, .int .i64 a0_1, .int .i64 a0_2, .int .i64 a0_3, .int .i64 a0_4] 52 (0, 0)) (by (with_reducible repeat (first | refine zf ?_ _ | refine zi ?_ | refine ze ?_ _)); exact zz.out) hb); have n4_ := Aside0.mk (zl (by repeat (first | (with_reducible first | exact HB.out | apply zg | apply zd | apply zh | refine zj ?_ zB.out) | exact HB.out)) hb); clear zC; clear zI; clear zz; clear HB; have zC := n0_; have zI := n1_; have zD := n2_; have zz := n3_; have HB := n4_; clear n0_ n1_ n2_ n3_ n4_; (try clear hb); (try clear hb2); (try clear hk); (try clear hi); (try clear zE); obtain ⟨Ao25, co25, eo25⟩ := Kd.R_slice zD.out; subst eo25) | ((with_reducible refine gate_builtin (b := .append) (xs := #[.tmp 16, .tmp 19]) rfl ?_); at_builtin; refine Kd.R_append_rows (Kd.int .u8) (w0 := w) w.heap.size rfl (.tmp 16) (.tmp 19) 22 5 (.int .u8 0) 1 rfl Try.underlying22 info5 rfl (by decide) (by omega) v224 y223 t226 _ _ _ (fun k_ => some k_ ≠ (.slice Ao21 y220.length co21 : Value).ownBlock ∧ some k_ ≠ (.slice Ao25 t226.length co25 : Value).ownBlock) (fun _ => False) rfl rfl ?aO ?aR (fun _ _ h => h) (fun _ h => h.elim) ?aF ?aB ?aS ?aL ?_; (case aR => repeat (first | exact (Kd.R_reads' zD.out).2.2 | (with_reducible refine Kd.C_alloc ?_ _) | (with_reducible refine Kd.C_drewN ?_ _) | (with_reducible refine Kd.C_drew ?_))); (case aB => exact (by repeat (first | (with_reducible first | exact HB.out | apply zg | apply zd | apply zh | refine zj ?_ zB.out) | exact HB.out))); (case aF => exact (fun k_ hk => ⟨Kd.fresh' (Kd.R_lt (by (with_reducible repeat (first | apply Kd.R_alloc | apply Kd.R_drewN | apply Kd.R_drew)); exact zC.out)) k_ hk, Kd.fresh' (Kd.R_lt (by (with_reducible repeat (first | apply Kd.R_alloc | apply Kd.R_drewN | apply Kd.R_drew)); exact zD.out)) k_ hk⟩)); (case aO => exact (by (with_reducible repeat (first | apply Kd.R_alloc | apply Kd.R_drewN | apply Kd.R_drew)); exact zI.out)); (case aS => exact (zk (by repeat (first | (with_reducible first | exact HB.out | apply zg | apply zd | apply zh | refine zj ?_ zB.out) | exact HB.out)))); (case aL => have := LMc7.out; omega); intro v230 w24 ho hb hg hat; rw [← Ny229.out] at ho; have n0_ := Aside0.mk (blk_grown (g := zA) (o := .cells #[.int .i64 a0_0, .int .i64 a0_1, .int .i64 a0_2, .int .i64 a0_3, .int .i64 a0_4] 52 (0, 0)) (by (with_reducible repeat (first | refine zf ?_ _ | refine zi ?_ | refine ze ?_ _)); exact zz.out) hg (Kd.R_ne zI.out zz.out (by decide))); have n1_ := Aside0.mk (Kd.R_after (ok := (fun k_ => some k_ ≠ (.slice Ao25 t226.length co25 : Value).ownBlock)) (by (with_reducible repeat (first | apply Kd.R_alloc | apply Kd.R_drewN | apply Kd.R_drew)); exact Kd.R_mono zC.out (fun _ hk => ⟨hk.2, hk.1.2⟩)) hg hat); have n2_ := Aside0.mk (Kd.R_after (ok := (fun k_ => some k_ ≠ (.slice Ao21 y220.length co21 : Value).ownBlock)) (by (with_reducible repeat (first | apply Kd.R_alloc | apply Kd.R_drewN | apply Kd.R_drew)); exact Kd.R_mono zD.out (fun _ hk => ⟨hk.1.2, hk.2⟩)) hg hat); have n3_ := Aside0.mk (hb); have n4_ := Aside0.mk (ho); clear zz; clear zC; clear zD; clear HB; clear zI; have zz := n0_; have zC := n1_; have zD := n2_; have HB := n3_; have zJ := n4_; clear n0_ n1_ n2_ n3_ n4_; clear ho hb hg hat; have zmb : w24.cell? ⟨zA, 0, none⟩ = some (.int .i64 a0_0) := (zc zz.out 0).trans rfl; have znb : w24.cell? ⟨zA, 1, none⟩ = some (.int .i64 a0_1) := (zc zz.out 1).trans rfl; have zob : w24.cell? ⟨zA, 2, none⟩ = some (.int .i64 a0_2) := (zc zz.out 2).trans rfl; have zpb : w24.cell? ⟨zA, 3, none⟩ = some (.int .i64 a0_3) := (zc zz.out 3).trans rfl; have zqb : w24.cell? ⟨zA, 4, none⟩ = some (.int .i64 a0_4) := (zc zz.out 4).trans rfl; have zrb := zb zz.out 0; have zsb := zb zz.out 1; have ztb := zb zz.out 2; have zub := zb zz.out 3; have zvb := zb zz.out 4) | ((with_reducible refine zo (f := 55) rfl ?_); refine goesL_ (some 24) rfl rfl Try.func55 (by kernel_rfl) rfl #[.int .i64 a0_3, .int .i64 4] rfl (by (try simp only [List.map_toArray, List.map_cons, List.map_nil]); first | done | rfl | (simp only [List.length_drop, List.length_take]; rfl)) ?_; (with_reducible refine (spec_l4Big.calls k a0_3 4 t232 _ A8.out).mono ?_); rintro e w27 ⟨v233, rfl, zE, hb⟩; refine ⟨_, rfl, ?_⟩; have n0_ := Aside0.mk (Kd.R_elder' (by (with_reducible repeat (first | apply Kd.R_alloc | apply Kd.R_drewN | apply Kd.R_drew)); exact zC.out) (Kd.R_base zE) hb); have n1_ := Aside0.mk (Kd.R_elder' (by (with_reducible repeat (first | apply Kd.R_alloc | apply Kd.R_drewN | apply Kd.R_drew)); exact zD.out) (Kd.R_base zE) hb); have n2_ := Aside0.mk (Kd.R_elder' (by (with_reducible repeat (first | apply Kd.R_alloc | apply Kd.R_drewN | apply Kd.R_drew)); exact zJ.out) (Kd.R_base zE) hb); have n3_ := Aside0.mk (Kd.R_lower (Kd.R_new' (Kd.R_new' (Kd.R_new' zE (Kd.R_lt (by (with_reducible repeat (first | apply Kd.R_alloc | apply Kd.R_drewN | apply Kd.R_drew)); exact zC.out))) (Kd.R_lt (by (with_reducible repeat (first | apply Kd.R_alloc | apply Kd.R_drewN | apply Kd.R_drew)); exact zD.out))) (Kd.R_lt (by (with_reducible repeat (first | apply Kd.R_alloc | apply Kd.R_drewN | apply Kd.R_drew)); exact zJ.out))) (zk (by repeat (first | (with_reducible first | exact HB.out | apply zg | apply zd | apply zh | refine zj ?_ zB.out) | exact HB.out)))); have n4_ := Aside0.mk (zr (g := zA) (o := .cells #[.int .i64 a0_0, .int .i64 a0_1, .int .i64 a0_2, .int .i64 a0_3, .int .i64 a0_4] 52 (0, 0)) (by (with_reducible repeat (first | refine zf ?_ _ | refine zi ?_ | refine ze ?_ _)); exact zz.out) hb); have n5_ := Aside0.mk (zl (by repeat (first | (with_reducible first | exact HB.out | apply zg | apply zd | apply zh | refine zj ?_ zB.out) | exact HB.out)) hb); clear zC; clear zD; clear zJ; clear zz; clear HB; have zC := n0_; have zD := n1_; have zJ := n2_; have zF := n3_; have zz := n4_; have HB := n5_; clear n0_ n1_ n2_ n3_ n4_ n5_; (try clear hb); (try clear hb2); (try clear hk); (try clear hi); (try clear zE); obtain ⟨Ao29, co29, eo29⟩ := Kd.R_slice zF.out; subst eo29) | ((with_reducible refine gate_builtin (b := .append) (xs := #[.tmp 21, .tmp 24]) rfl ?_); at_builtin; refine Kd.R_append_rows (Kd.int .u8) (w0 := w) w.heap.size rfl (.tmp 21) (.tmp 24) 22 5 (.int .u8 0) 1 rfl Try.underlying22 info5 rfl (by decide) (by omega) v230 y229 t232 _ _ _ (fun k_ => some k_ ≠ (.slice Ao21 y220.length co21 : Value).ownBlock ∧ some k_ ≠ (.slice Ao25 t226.length co25 : Value).ownBlock ∧ some k_ ≠ (.slice Ao29 t232.length co29 : Value).ownBlock) (fun _ => False) rfl rfl ?aO ?aR (fun _ _ h => h) (fun _ h => h.elim) ?aF ?aB ?aS ?aL ?_; (case aR => repeat (first | exact (Kd.R_reads' zF.out).2.2 | (with_reducible refine Kd.C_alloc ?_ _) | (with_reducible refine Kd.C_drewN ?_ _) | (with_reducible refine Kd.C_drew ?_))); (case aB => exact (by repeat (first | (with_reducible first | exact HB.out | apply zg | apply zd | apply zh | refine zj ?_ zB.out) | exact HB.out))); (case aF => exact (fun k_ hk => ⟨Kd.fresh' (Kd.R_lt (by (with_reducible repeat (first | apply Kd.R_alloc | apply Kd.R_drewN | apply Kd.R_drew)); exact zC.out)) k_ hk, Kd.fresh' (Kd.R_lt (by (with_reducible repeat (first | apply Kd.R_alloc | apply Kd.R_drewN | apply Kd.R_drew)); exact zD.out)) k_ hk, Kd.fresh' (Kd.R_lt (by (with_reducible repeat (first | apply Kd.R_alloc | apply Kd.R_drewN | apply Kd.R_drew)); exact zF.out)) k_ hk⟩)); (case aO => exact (by (with_reducible repeat (first | apply Kd.R_alloc | apply Kd.R_drewN | apply Kd.R_drew)); exact Kd.R_mono zJ.out (fun _ hk => ⟨hk.1.1, ⟨hk.1.2, hk.2⟩⟩))); (case aS => exact (zk (by repeat (first | (with_reducible first | exact HB.out | apply zg | apply zd | apply zh | refine zj ?_ zB.out) | exact HB.out)))); (case aL => have := LMc9.out; omega); intro v236 w28 ho hb hg hat; rw [← Ny235.out] at ho; have n0_ := Aside0.mk (blk_grown (g := zA) (o := .cells #[.int .i64 a0_0, .int .i64 a0_1, .int .i64 a0_2, .int .i64 a0_3, .int .i64 a0_4] 52 (0, 0)) (by (with_reducible repeat (first | refine zf ?_ _ | refine zi ?_ | refine ze ?_ _)); exact zz.out) hg (Kd.R_ne zJ.out zz.out (by decide))); have n1_ := Aside0.mk (Kd.R_after (ok := (fun k_ => some k_ ≠ (.slice Ao25 t226.length co25 : Value).ownBlock ∧ some k_ ≠ (.slice Ao29 t232.length co29 : Value).ownBlock)) (by (with_reducible repeat (first | apply Kd.R_alloc | apply Kd.R_drewN | apply Kd.R_drew)); exact Kd.R_mono zC.out (fun _ hk => ⟨⟨hk.1.1, hk.2⟩, hk.1.2⟩)) hg hat); have n2_ := Aside0.mk (Kd.R_after (ok := (fun k_ => some k_ ≠ (.slice Ao21 y220.length co21 : Value).ownBlock ∧ some k_ ≠ (.slice Ao29 t232.length co29 : Value).ownBlock)) (by (with_reducible repeat (first | apply Kd.R_alloc | apply Kd.R_drewN | apply Kd.R_drew)); exact Kd.R_mono zD.out (fun _ hk => ⟨⟨hk.1.1, hk.2⟩, hk.1.2⟩)) hg hat); have n3_ := Aside0.mk (Kd.R_after (ok := (fun k_ => some k_ ≠ (.slice Ao21 y220.length co21 : Value).ownBlock ∧ some k_ ≠ (.slice Ao25 t226.length co25 : Value).ownBlock)) (by (with_reducible repeat (first | apply Kd.R_alloc | apply Kd.R_drewN | apply Kd.R_drew)); exact Kd.R_mono zF.out (fun _ hk => ⟨⟨hk.1.1.2, hk.1.2⟩, hk.2⟩)) hg hat); have n4_ := Aside0.mk (hb); have n5_ := Aside0.mk (ho); clear zz; clear zC; clear zD; clear zF; clear HB; clear zJ; have zz := n0_; have zC := n1_; have zD := n2_; have zF := n3_; have HB := n4_; have zK := n5_; clear n0_ n1_ n2_ n3_ n4_ n5_; clear ho hb hg hat; have zwb : w28.cell? ⟨zA, 0, none⟩ = some (.int .i64 a0_0) := (zc zz.out 0).trans rfl; have zxb : w28.cell? ⟨zA, 1, none⟩ = some (.int .i64 a0_1) := (zc zz.out 1).trans rfl; have zyb : w28.cell? ⟨zA, 2, none⟩ = some (.int .i64 a0_2) := (zc zz.out 2).trans rfl; have zzb : w28.cell? ⟨zA, 3, none⟩ = some (.int .i64 a0_3) := (zc zz.out 3).trans rfl; have zAb : w28.cell? ⟨zA, 4, none⟩ = some (.int .i64 a0_4) := (zc zz.out 4).trans rfl; have zBb := zb zz.out 0; have zCb := zb zz.out 1; have zDb := zb zz.out 2; have zEb := zb zz.out 3; have zFb := zb zz.out 4) | ((with_reducible refine zo (f := 55) rfl ?_); refine goesL_ (some 29) rfl rfl Try.func55 (by kernel_rfl) rfl #[.int .i64 a0_4, .int .i64 4] rfl (by (try simp only [List.map_toArray, List.map_cons, List.map_nil]); first | done | rfl | (simp only [List.length_drop, List.length_take]; rfl)) ?_; (with_reducible refine (spec_l4Big.calls k a0_4 4 t238 _ A10.out).mono ?_); rintro e w31 ⟨v239, rfl, zE, hb⟩; refine ⟨_, rfl, ?_⟩; have n0_ := Aside0.mk (Kd.R_elder' (by (with_reducible repeat (first | apply Kd.R_alloc | apply Kd.R_drewN | apply Kd.R_drew)); exact zC.out) (Kd.R_base zE) hb); have n1_ := Aside0.mk (Kd.R_elder' (by (with_reducible repeat (first | apply Kd.R_alloc | apply Kd.R_drewN | apply Kd.R_drew)); exact zD.out) (Kd.R_base zE) hb); have n2_ := Aside0.mk (Kd.R_elder' (by (with_reducible repeat (first | apply Kd.R_alloc | apply Kd.R_drewN | apply Kd.R_drew)); exact zF.out) (Kd.R_base zE) hb); have n3_ := Aside0.mk (Kd.R_elder' (by (with_reducible repeat (first | apply Kd.R_alloc | apply Kd.R_drewN | apply Kd.R_drew)); exact zK.out) (Kd.R_base zE) hb); have n4_ := Aside0.mk (Kd.R_lower (Kd.R_new' (Kd.R_new' (Kd.R_new' (Kd.R_new' zE (Kd.R_lt (by (with_reducible repeat (first | apply Kd.R_alloc | apply Kd.R_drewN | apply Kd.R_drew)); exact zC.out))) (Kd.R_lt (by (with_reducible repeat (first | apply Kd.R_alloc | apply Kd.R_drewN | apply Kd.R_drew)); exact zD.out))) (Kd.R_lt (by (with_reducible repeat (first | apply Kd.R_alloc | apply Kd.R_drewN | apply Kd.R_drew)); exact zF.out))) (Kd.R_lt (by (with_reducible repeat (first | apply Kd.R_alloc | apply Kd.R_drewN | apply Kd.R_drew)); exact zK.out))) (zk (by repeat (first | (with_reducible first | exact HB.out | apply zg | apply zd | apply zh | refine zj ?_ zB.out) | exact HB.out)))); have n5_ := Aside0.mk (zr (g := zA) (o := .cells #[.int .i64 a0_0, .int .i64 a0_1, .int .i64 a0_2, .int .i64 a0_3, .int .i64 a0_4] 52 (0, 0)) (by (with_reducible repeat (first | refine zf ?_ _ | refine zi ?_ | refine ze ?_ _)); exact zz.out) hb); have n6_ := Aside0.mk (zl (by repeat (first | (with_reducible first | exact HB.out | apply zg | apply zd | apply zh | refine zj ?_ zB.out) | exact HB.out)) hb); clear zC; clear zD; clear zF; clear zK; clear zz; clear HB; have zC := n0_; have zD := n1_; have zF := n2_; have zK := n3_; have zL := n4_; have zz := n5_; have HB := n6_; clear n0_ n1_ n2_ n3_ n4_ n5_ n6_; (try clear hb); (try clear hb2); (try clear hk); (try clear hi); (try clear zE); obtain ⟨Ao33, co33, eo33⟩ := Kd.R_slice zL.out; subst eo33) | ((with_reducible refine gate_builtin (b := .append) (xs := #[.tmp 26, .tmp 29]) rfl ?_); at_builtin; refine Kd.R_append_rows (Kd.int .u8) (w0 := w) w.heap.size rfl (.tmp 26) (.tmp 29) 22 5 (.int .u8 0) 1 rfl Try.underlying22 info5 rfl (by decide) (by omega) v236 y235 t238 _ _ _ (fun k_ => some k_ ≠ (.slice Ao21 y220.length co21 : Value).ownBlock ∧ some k_ ≠ (.slice Ao25 t226.length co25 : Value).ownBlock ∧ some k_ ≠ (.slice Ao29 t232.length co29 : Value).ownBlock ∧ some k_ ≠ (.slice Ao33 t238.length co33 : Value).ownBlock) (fun _ => False) rfl rfl ?aO ?aR (fun _ _ h => h) (fun _ h => h.elim) ?aF ?aB ?aS ?aL ?_; (case aR => repeat (first | exact (Kd.R_reads' zL.out).2.2 | (with_reducible refine Kd.C_alloc ?_ _) | (with_reducible refine Kd.C_drewN ?_ _) | (with_reducible refine Kd.C_drew ?_))); (case aB => exact (by repeat (first | (with_reducible first | exact HB.out | apply zg | apply zd | apply zh | refine zj ?_ zB.out) | exact HB.out))); (case aF => exact (fun k_ hk => ⟨Kd.fresh' (Kd.R_lt (by (with_reducible repeat (first | apply Kd.R_alloc | apply Kd.R_drewN | apply Kd.R_drew)); exact zC.out)) k_ hk, Kd.fresh' (Kd.R_lt (by (with_reducible repeat (first | apply Kd.R_alloc | apply Kd.R_drewN | apply Kd.R_drew)); exact zD.out)) k_ hk, Kd.fresh' (Kd.R_lt (by (with_reducible repeat (first | apply Kd.R_alloc | apply Kd.R_drewN | apply Kd.R_drew)); exact zF.out)) k_ hk, Kd.fresh' (Kd.R_lt (by (with_reducible repeat (first | apply Kd.R_alloc | apply Kd.R_drewN | apply Kd.R_drew)); exact zL.out)) k_ hk⟩)); (case aO => exact (by (with_reducible repeat (first | apply Kd.R_alloc | apply Kd.R_drewN | apply Kd.R_drew)); exact Kd.R_mono zK.out (fun _ hk => ⟨hk.1.1, ⟨hk.1.2.1, ⟨hk.1.2.2, hk.2⟩⟩⟩))); (case aS => exact (zk (by repeat (first | (with_reducible first | exact HB.out | apply zg | apply zd | apply zh | refine zj ?_ zB.out) | exact HB.out)))); (case aL => have := LMc11.out; omega); intro v242 w32 ho hb hg hat; rw [← Ny241.out] at ho; have n0_ := Aside0.mk (blk_grown (g := zA) (o := .cells #[.int .i64 a0_0, .int .i64 a0_1, .int .i64 a0_2, .int .i64 a0_3, .int .i64 a0_4] 52 (0, 0)) (by (with_reducible repeat (first | refine zf ?_ _ | refine zi ?_ | refine ze ?_ _)); exact zz.out) hg (Kd.R_ne zK.out zz.out (by decide))); have n1_ := Aside0.mk (Kd.R_after (ok := (fun k_ => some k_ ≠ (.slice Ao25 t226.length co25 : Value).ownBlock ∧ some k_ ≠ (.slice Ao29 t232.length co29 : Value).ownBlock ∧ some k_ ≠ (.slice Ao33 t238.length co33 : Value).ownBlock)) (by (with_reducible repeat (first | apply Kd.R_alloc | apply Kd.R_drewN | apply Kd.R_drew)); exact Kd.R_mono zC.out (fun _ hk => ⟨⟨hk.1.1.1, ⟨hk.1.1.2, hk.2⟩⟩, hk.1.2⟩)) hg hat); have n2_ := Aside0.mk (Kd.R_after (ok := (fun k_ => some k_ ≠ (.slice Ao21 y220.length co21 : Value).ownBlock ∧ some k_ ≠ (.slice Ao29 t232.length co29 : Value).ownBlock ∧ some k_ ≠ (.slice Ao33 t238.length co33 : Value).ownBlock)) (by (with_reducible repeat (first | apply Kd.R_alloc | apply Kd.R_drewN | apply Kd.R_drew)); exact Kd.R_mono zD.out (fun _ hk => ⟨⟨hk.1.1.1, ⟨hk.1.1.2, hk.2⟩⟩, hk.1.2⟩)) hg hat); have n3_ := Aside0.mk (Kd.R_after (ok := (fun k_ => some k_ ≠ (.slice Ao21 y220.length co21 : Value).ownBlock ∧ some k_ ≠ (.slice Ao25 t226.length co25 : Value).ownBlock ∧ some k_ ≠ (.slice Ao33 t238.length co33 : Value).ownBlock)) (by (with_reducible repeat (first | apply Kd.R_alloc | apply Kd.R_drewN | apply Kd.R_drew)); exact Kd.R_mono zF.out (fun _ hk => ⟨⟨hk.1.1.1, ⟨hk.1.1.2, hk.2⟩⟩, hk.1.2⟩)) hg hat); have n4_ := Aside0.mk (Kd.R_after (ok := (fun k_ => some k_ ≠ (.slice Ao21 y220.length co21 : Value).ownBlock ∧ some k_ ≠ (.slice Ao25 t226.length co25 : Value).ownBlock ∧ some k_ ≠ (.slice Ao29 t232.length co29 : Value).ownBlock)) (by (with_reducible repeat (first | apply Kd.R_alloc | apply Kd.R_drewN | apply Kd.R_drew)); exact Kd.R_mono zL.out (fun _ hk => ⟨⟨hk.1.1.1.2, ⟨hk.1.1.2, hk.1.2⟩⟩, hk.2⟩)) hg hat); have n5_ := Aside0.mk (hb); have n6_ := Aside0.mk (ho); clear zz; clear zC; clear zD; clear zF; clear zL; clear HB; clear zK; have zz := n0_; have zC := n1_; have zD := n2_; have zF := n3_; have zL := n4_; have HB := n5_; have zGb := n6_; clear n0_ n1_ n2_ n3_ n4_ n5_ n6_; clear ho hb hg hat))
      go_loopg [3] k (fun kq v3 w' => ∃ (x3_1 : List Int), Aside0 (spec_EncodeSuper.l0 kq x3_1 a0_0 a0_1 a0_2 a0_3 a0_4 = some r) ∧ Aside0 (kq ≤ k) ∧ Aside0 (Kd.R (Kd.int .u8) 5 w' w.heap.size (fun _ => True) v3 x3_1) ∧ Aside0 (w'.heap[zA]? = some (.cells #[.int .i64 a0_0, .int .i64 a0_1, .int .i64 a0_2, .int .i64 a0_3, .int .i64 a0_4] 52 (0, 0))) ∧ Aside0 (Below w.heap.size w w'))
      case atStart => exact ⟨(y241), H', ⟨Nat.le_refl _⟩, ⟨by (with_reducible repeat (first | apply Kd.R_alloc | apply Kd.R_drewN | apply Kd.R_drew)); exact Kd.R_mono zGb.out (fun _ hk => trivial)⟩, ⟨by (with_reducible repeat (first | refine zf ?_ _ | refine zi ?_ | refine ze ?_ _)); exact zz.out⟩, ⟨by repeat (first | (with_reducible first | exact HB.out | apply zg | apply zd | apply zh | refine zj ?_ zB.out) | exact HB.out)⟩⟩
      case round =>
       clear H'
       try clear c1
       try clear c2
       try clear p2
       try clear c3
       try clear c5
       try clear c7
       try clear c9
       try clear c11
       try clear c27
       try clear zS
       try clear zT
       try clear zU
       try clear zV
       try clear zW
       try clear zcb
       try clear zdb
       try clear zeb
       try clear zfb
       try clear zgb
       try clear zmb
       try clear znb
       try clear zob
       try clear zpb
       try clear zqb
       try clear zwb
       try clear zxb
       try clear zyb
       try clear zzb
       try clear zAb
       try clear zX
       try clear zY
       try clear zZ
       try clear zab
       try clear zbb
       try clear zhb
       try clear zib
       try clear zjb
       try clear zkb
       try clear zlb
       try clear zrb
       try clear zsb
       try clear ztb
       try clear zub
       try clear zvb
       try clear zBb
       try clear zCb
       try clear zDb
       try clear zEb
       try clear zFb
       obtain ⟨x3_1, HA, HK1, zG, zz, HB⟩ := hrel
       cases gk with
       | zero => exact absurd HA.out (by simp [spec_EncodeSuper.l0])
       | succ k1 =>
        have H := HA.out
        clear HA
        simp only [spec_EncodeSuper.l0] at H
        by_cases c34 : (x3_1.length : Int) < 56
        ·rw [if_pos c34] at H
         have c34b0 : decide ((x3_1.length : Int) < 56) = true := decide_eq_true c34
         have c34b1 : decide (x3_1.length < 56) = true := decide_eq_true (by omega)
         clear c34
         obtain ⟨y244, hy244⟩ : ∃ y_ : List Int, y_ = (([0] : List Int)) := ⟨_, rfl⟩
         replace H : (if x3_1.length + y244.length < 140737488355328 then (spec_EncodeSuper.l0 k1 (x3_1 ++ y244) a0_0 a0_1 a0_2 a0_3 a0_4) else (none)) = some r := by first | (rw [hy244]; with_reducible exact H) | (have H2_ := (Option.bind_some _ _).symm.trans H; rw [hy244]; with_reducible exact H2_) | (have H2_ := (Option.bind_some _ _).symm.trans H; with_reducible exact H2_) | with_reducible exact H | (rw [hy244]; exact H) | exact H
         have Ny244 := Aside0.mk hy244
         clear hy244
         by_cases c35 : x3_1.length + y244.length < 140737488355328
         ·rw [if_pos c35] at H
          have LMc35 := Aside0.mk c35
          clear c35
          obtain ⟨y247, hy247⟩ : ∃ y_ : List Int, y_ = (x3_1 ++ y244) := ⟨_, rfl⟩
          replace H : (spec_EncodeSuper.l0 k1 y247 a0_0 a0_1 a0_2 a0_3 a0_4) = some r := by first | (rw [hy247]; with_reducible exact H) | (have H2_ := (Option.bind_some _ _).symm.trans H; rw [hy247]; with_reducible exact H2_) | (have H2_ := (Option.bind_some _ _).symm.trans H; with_reducible exact H2_) | with_reducible exact H | (rw [hy247]; exact H) | exact H
          have Ny247 := Aside0.mk hy247
          clear hy247
          have H' := Aside0.mk H
          clear H
          obtain ⟨Ao36, co36, eo36⟩ := Kd.R_slice zG.out
          subst eo36
          go_wp2_with (first | ((with_reducible refine zu (N := 35) rfl ?_); refine Kd.R_lit (Kd.int .u8) _ 5 ?hg (N := 35) ?hd (xs := ([0] : List Int)) (inner := [.int .u8 0]) (ok := fun _ => True) (okp := fun _ => True) ?hr ?hp (fun _ hk => hk) trivial (Below.refl _ _) (Nat.le_refl _) (by simp) ?_; (case hd => rfl); (case hg => rfl); (case hr => first | (go_simp; done) | (go_simp; rfl)); (case hp => exact (Reps.one (show Kd.M (Kd.int .u8) _ _ _ 0 [.int .u8 0] from rfl) (Reps.none _ _))); intro v245 w37 zP hb hg_ hnew_; clear hg_ hnew_; (first | rw [← Ny244.out] at zP | (simp only [Int.reduceToNat] at zP; rw [← Ny244.out] at zP)); have n0_ := Aside0.mk (Kd.R_elder' (by (with_reducible repeat (first | apply Kd.R_alloc | apply Kd.R_drewN | apply Kd.R_drew)); exact zG.out) (Kd.R_base zP) hb); have n1_ := Aside0.mk (Kd.R_lower (Kd.R_new' zP (Kd.R_lt (by (with_reducible repeat (first | apply Kd.R_alloc | apply Kd.R_drewN | apply Kd.R_drew)); exact zG.out))) (zk (by repeat (first | (with_reducible first | exact HB.out | apply zg | apply zd | apply zh | refine zj ?_ zB.out) | exact HB.out)))); have n2_ := Aside0.mk (zr (g := zA) (o := .cells #[.int .i64 a0_0, .int .i64 a0_1, .int .i64 a0_2, .int .i64 a0_3, .int .i64 a0_4] 52 (0, 0)) (by (with_reducible repeat (first | refine zf ?_ _ | refine zi ?_ | refine ze ?_ _)); exact zz.out) hb); have n3_ := Aside0.mk (zl (by repeat (first | (with_reducible first | exact HB.out | apply zg | apply zd | apply zh | refine zj ?_ zB.out) | exact HB.out)) hb); clear zG; clear zz; clear HB; have zG := n0_; have zM := n1_; have zz := n2_; have HB := n3_; clear n0_ n1_ n2_ n3_; clear hb zP; obtain ⟨Ao40, co40, eo40⟩ := Kd.R_slice zM.out; subst eo40) | ((with_reducible refine gate_builtin (b := .append) (xs := #[.tmp 34, .tmp 35]) rfl ?_); at_builtin; refine Kd.R_append_rows (Kd.int .u8) (w0 := w) w.heap.size rfl (.tmp 34) (.tmp 35) 22 5 (.int .u8 0) 1 rfl Try.underlying22 info5 rfl (by decide) (by omega) (.slice Ao36 x3_1.length co36) x3_1 y244 _ _ _ (fun k_ => some k_ ≠ (.slice Ao40 y244.length co40 : Value).ownBlock) (fun _ => False) rfl rfl ?aO ?aR (fun _ _ h => h) (fun _ h => h.elim) ?aF ?aB ?aS ?aL ?_; (case aR => repeat (first | exact (Kd.R_reads' zM.out).2.2 | (with_reducible refine Kd.C_alloc ?_ _) | (with_reducible refine Kd.C_drewN ?_ _) | (with_reducible refine Kd.C_drew ?_))); (case aB => exact (by repeat (first | (with_reducible first | exact HB.out | apply zg | apply zd | apply zh | refine zj ?_ zB.out) | exact HB.out))); (case aF => exact (fun k_ hk => Kd.fresh' (Kd.R_lt (by (with_reducible repeat (first | apply Kd.R_alloc | apply Kd.R_drewN | apply Kd.R_drew)); exact zM.out)) k_ hk)); (case aO => exact (by (with_reducible repeat (first | apply Kd.R_alloc | apply Kd.R_drewN | apply Kd.R_drew)); exact Kd.R_mono zG.out (fun _ hk => hk.2))); (case aS => exact (zk (by repeat (first | (with_reducible first | exact HB.out | apply zg | apply zd | apply zh | refine zj ?_ zB.out) | exact HB.out)))); (case aL => have := LMc35.out; omega); intro v248 w39 ho hb hg hat; rw [← Ny247.out] at ho; have n0_ := Aside0.mk (blk_grown (g := zA) (o := .cells #[.int .i64 a0_0, .int .i64 a0_1, .int .i64 a0_2, .int .i64 a0_3, .int .i64 a0_4] 52 (0, 0)) (by (with_reducible repeat (first | refine zf ?_ _ | refine zi ?_ | refine ze ?_ _)); exact zz.out) hg (Kd.R_ne zG.out zz.out (by decide))); have n1_ := Aside0.mk (Kd.R_after (ok := (fun _ => True)) (by (with_reducible repeat (first | apply Kd.R_alloc | apply Kd.R_drewN | apply Kd.R_drew)); exact zM.out) hg hat); have n2_ := Aside0.mk (hb); have n3_ := Aside0.mk (ho); clear zz; clear zM; clear HB; clear zG; have zz := n0_; have zM := n1_; have HB := n2_; have zHb := n3_; clear n0_ n1_ n2_ n3_; clear ho hb hg hat))
          go_roundg k1
          case measure => have := HK1.out; omega
          case rel => exact ⟨(y247), H', ⟨by have := HK1.out; omega⟩, ⟨by (with_reducible repeat (first | apply Kd.R_alloc | apply Kd.R_drewN | apply Kd.R_drew)); exact Kd.R_mono zHb.out (fun _ hk => trivial)⟩, ⟨by (with_reducible repeat (first | refine zf ?_ _ | refine zi ?_ | refine ze ?_ _)); exact zz.out⟩, ⟨by repeat (first | (with_reducible first | exact HB.out | apply zg | apply zd | apply zh | refine zj ?_ zB.out) | exact HB.out)⟩⟩
         ·rw [if_neg c35] at H
          exact absurd H (by simp)
        ·rw [if_neg c34] at H
         have c34b0 : decide ((x3_1.length : Int) < 56) = false := decide_eq_false c34
         have c34b1 : decide (x3_1.length < 56) = false := decide_eq_false (by omega)
         clear c34
         replace H := Option.bind_eq_some_iff.mp H
         obtain ⟨t250, A410, H⟩ := H
         replace H : (if x3_1.length + t250.length < 140737488355328 then (some (x3_1 ++ t250)) else (none)) = some r := H
         have A41 := Aside0.mk A410
         clear A410
         by_cases c42 : x3_1.length + t250.length < 140737488355328
         ·rw [if_pos c42] at H
          have LMc42 := Aside0.mk c42
          clear c42
          obtain ⟨y253, hy253⟩ : ∃ y_ : List Int, y_ = (x3_1 ++ t250) := ⟨_, rfl⟩
          replace H : (some y253) = some r := by first | (rw [hy253]; with_reducible exact H) | (have H2_ := (Option.bind_some _ _).symm.trans H; rw [hy253]; with_reducible exact H2_) | (have H2_ := (Option.bind_some _ _).symm.trans H; with_reducible exact H2_) | with_reducible exact H | (rw [hy253]; exact H) | exact H
          have Ny253 := Aside0.mk hy253
          clear hy253
          obtain rfl := Option.some.inj H
          obtain ⟨Ao43, co43, eo43⟩ := Kd.R_slice zG.out
          subst eo43
          have zKb : wr.cell? ⟨zA, 0, none⟩ = some (.int .i64 a0_0) := (zc zz.out 0).trans rfl
          have zLb : wr.cell? ⟨zA, 1, none⟩ = some (.int .i64 a0_1) := (zc zz.out 1).trans rfl
          have zMb : wr.cell? ⟨zA, 2, none⟩ = some (.int .i64 a0_2) := (zc zz.out 2).trans rfl
          have zNb : wr.cell? ⟨zA, 3, none⟩ = some (.int .i64 a0_3) := (zc zz.out 3).trans rfl
          have zOb : wr.cell? ⟨zA, 4, none⟩ = some (.int .i64 a0_4) := (zc zz.out 4).trans rfl
          have zPb := zb zz.out 0
          have zQb := zb zz.out 1
          have zRb := zb zz.out 2
          have zSb := zb zz.out 3
          have zTb := zb zz.out 4
          go_wp2_with (first | ((with_reducible refine zo (f := 55) rfl ?_); refine goesL_ (some 40) rfl rfl Try.func55 (by kernel_rfl) rfl #[.int .i64 a0_0, .int .i64 8] rfl (by (try simp only [List.map_toArray, List.map_cons, List.map_nil]); first | done | rfl | (simp only [List.length_drop, List.length_take]; rfl)) ?_; (with_reducible refine (spec_l4Big.calls k1 a0_0 8 t250 _ A41.out).mono ?_); rintro e w45 ⟨v251, rfl, zE, hb⟩; refine ⟨_, rfl, ?_⟩; have n0_ := Aside0.mk (Kd.R_elder' (by (with_reducible repeat (first | apply Kd.R_alloc | apply Kd.R_drewN | apply Kd.R_drew)); exact zG.out) (Kd.R_base zE) hb); have n1_ := Aside0.mk (Kd.R_lower (Kd.R_new' zE (Kd.R_lt (by (with_reducible repeat (first | apply Kd.R_alloc | apply Kd.R_drewN | apply Kd.R_drew)); exact zG.out))) (zk (by repeat (first | (with_reducible first | exact HB.out | apply zg | apply zd | apply zh | refine zj ?_ zB.out) | exact HB.out)))); have n2_ := Aside0.mk (zr (g := zA) (o := .cells #[.int .i64 a0_0, .int .i64 a0_1, .int .i64 a0_2, .int .i64 a0_3, .int .i64 a0_4] 52 (0, 0)) (by (with_reducible repeat (first | refine zf ?_ _ | refine zi ?_ | refine ze ?_ _)); exact zz.out) hb); have n3_ := Aside0.mk (zl (by repeat (first | (with_reducible first | exact HB.out | apply zg | apply zd | apply zh | refine zj ?_ zB.out) | exact HB.out)) hb); clear zG; clear zz; clear HB; have zG := n0_; have zN := n1_; have zz := n2_; have HB := n3_; clear n0_ n1_ n2_ n3_; (try clear hb); (try clear hb2); (try clear hk); (try clear hi); (try clear zE); obtain ⟨Ao47, co47, eo47⟩ := Kd.R_slice zN.out; subst eo47) | ((with_reducible refine gate_builtin (b := .append) (xs := #[.tmp 37, .tmp 40]) rfl ?_); at_builtin; refine Kd.R_append_rows (Kd.int .u8) (w0 := w) w.heap.size rfl (.tmp 37) (.tmp 40) 22 5 (.int .u8 0) 1 rfl Try.underlying22 info5 rfl (by decide) (by omega) (.slice Ao43 x3_1.length co43) x3_1 t250 _ _ _ (fun k_ => some k_ ≠ (.slice Ao47 t250.length co47 : Value).ownBlock) (fun _ => False) rfl rfl ?aO ?aR (fun _ _ h => h) (fun _ h => h.elim) ?aF ?aB ?aS ?aL ?_; (case aR => repeat (first | exact (Kd.R_reads' zN.out).2.2 | (with_reducible refine Kd.C_alloc ?_ _) | (with_reducible refine Kd.C_drewN ?_ _) | (with_reducible refine Kd.C_drew ?_))); (case aB => exact (by repeat (first | (with_reducible first | exact HB.out | apply zg | apply zd | apply zh | refine zj ?_ zB.out) | exact HB.out))); (case aF => exact (fun k_ hk => Kd.fresh' (Kd.R_lt (by (with_reducible repeat (first | apply Kd.R_alloc | apply Kd.R_drewN | apply Kd.R_drew)); exact zN.out)) k_ hk)); (case aO => exact (by (with_reducible repeat (first | apply Kd.R_alloc | apply Kd.R_drewN | apply Kd.R_drew)); exact Kd.R_mono zG.out (fun _ hk => hk.2))); (case aS => exact (zk (by repeat (first | (with_reducible first | exact HB.out | apply zg | apply zd | apply zh | refine zj ?_ zB.out) | exact HB.out)))); (case aL => have := LMc42.out; omega); intro v254 w46 ho hb hg hat; rw [← Ny253.out] at ho; have n0_ := Aside0.mk (blk_grown (g := zA) (o := .cells #[.int .i64 a0_0, .int .i64 a0_1, .int .i64 a0_2, .int .i64 a0_3, .int .i64 a0_4] 52 (0, 0)) (by (with_reducible repeat (first | refine zf ?_ _ | refine zi ?_ | refine ze ?_ _)); exact zz.out) hg (Kd.R_ne zG.out zz.out (by decide))); have n1_ := Aside0.mk (Kd.R_after (ok := (fun _ => True)) (by (with_reducible repeat (first | apply Kd.R_alloc | apply Kd.R_drewN | apply Kd.R_drew)); exact zN.out) hg hat); have n2_ := Aside0.mk (hb); have n3_ := Aside0.mk (ho); clear zz; clear zN; clear HB; clear zG; have zz := n0_; have zN := n1_; have HB := n2_; have zIb := n3_; clear n0_ n1_ n2_ n3_; clear ho hb hg hat))
          go_ret
          exact ⟨_, by first | rfl | (simp [errW_none, errW_some] <;> rfl) | (simp [*, errW_none, errW_some] <;> rfl), by (with_reducible repeat (first | apply Kd.R_alloc | apply Kd.R_drewN | apply Kd.R_drew)); exact Kd.R_mono zIb.out (fun _ hk => trivial), by repeat (first | (with_reducible first | exact HB.out | apply zg | apply zd | apply zh | refine zj ?_ zB.out) | exact HB.out)⟩
         ·rw [if_neg c42] at H
          exact absurd H (by simp)
     ·rw [if_neg c11] at H
      exact absurd H (by simp)
    ·rw [if_neg c9] at H
     exact absurd H (by simp)
   ·rw [if_neg c7] at H
    exact absurd H (by simp)
  ·rw [if_neg c5] at H
   exact absurd H (by simp)
 ·replace c3 := Bool.eq_false_iff.mpr c3
  subst c3
  have H1 : (some (([] : List Int))) = some r := by rw [if_neg (show ¬ (false = true) by decide)] at H; exact H
  clear H
  have H := H1
  clear H1
  obtain ⟨y214, hy214⟩ : ∃ y_ : List Int, y_ = (([] : List Int)) := ⟨_, rfl⟩
  replace H : (some y214) = some r := by first | (rw [hy214]; with_reducible exact H) | (have H2_ := (Option.bind_some _ _).symm.trans H; rw [hy214]; with_reducible exact H2_) | (have H2_ := (Option.bind_some _ _).symm.trans H; with_reducible exact H2_) | with_reducible exact H | (rw [hy214]; exact H) | exact H
  have Ny214 := Aside0.mk hy214
  clear hy214
  obtain rfl := Option.some.inj H
  go_enter Try.func27, Try.ntmps27
  go_wp2_with (first | ((with_reducible refine zu (N := 1) rfl ?_); refine zy ?hg (N := 1) ?hd (cs := #[.int .i64 a0_0, .int .i64 a0_1, .int .i64 a0_2, .int .i64 a0_3, .int .i64 a0_4]) (t := 52) ?hr ?_; (case hd => rfl); (case hg => rfl); (case hr => first | (go_simp; done) | (go_simp; rfl)); intro zA hg w48 hbox hb; have n0_ := Aside0.mk (zl (by repeat (first | (with_reducible first | exact HB.out | apply zg | apply zd | apply zh) | exact HB.out)) hb); have n1_ := Aside0.mk (hbox); have n2_ := Aside0.mk ((by rw [hg]; exact (zk (by repeat (first | (with_reducible first | exact HB.out | apply zg | apply zd | apply zh) | exact HB.out))) : w.heap.size ≤ zA)); have n3_ := Aside0.mk ((by rw [hg]; exact (zk (by repeat (first | (with_reducible first | exact HB.out | apply zg | apply zd | apply zh) | exact HB.out))) : w.heap.size ≤ zA)); clear HB; have HB := n0_; have zz := n1_; have GW212 := n2_; have zB := n3_; clear n0_ n1_ n2_ n3_; clear hb hbox hg; have zUb : w48.cell? ⟨zA, 0, none⟩ = some (.int .i64 a0_0) := (zc zz.out 0).trans rfl; have zVb : w48.cell? ⟨zA, 1, none⟩ = some (.int .i64 a0_1) := (zc zz.out 1).trans rfl; have zWb : w48.cell? ⟨zA, 2, none⟩ = some (.int .i64 a0_2) := (zc zz.out 2).trans rfl; have zXb : w48.cell? ⟨zA, 3, none⟩ = some (.int .i64 a0_3) := (zc zz.out 3).trans rfl; have zYb : w48.cell? ⟨zA, 4, none⟩ = some (.int .i64 a0_4) := (zc zz.out 4).trans rfl; have zZb := zb zz.out 0; have zac := zb zz.out 1; have zbc := zb zz.out 2; have zcc := zb zz.out 3; have zdc := zb zz.out 4) | ((with_reducible refine zo (f := 54) rfl ?_); refine goesL_ (some 5) rfl rfl Try.func54 (by kernel_rfl) rfl #[.agg #[.int .i64 a0_0, .int .i64 a0_1, .int .i64 a0_2, .int .i64 a0_3, .int .i64 a0_4]] rfl (by (try simp only [List.map_toArray, List.map_cons, List.map_nil]); first | done | rfl | (simp only [List.length_drop, List.length_take]; rfl)) ?_; (with_reducible refine (spec_l4ValidSuper.calls a0_0 a0_1 a0_2 a0_3 a0_4 false _ A2.out).mono ?_); rintro e w50 ⟨rfl, hb⟩; refine ⟨_, rfl, ?_⟩; have n0_ := Aside0.mk (zr (g := zA) (o := .cells #[.int .i64 a0_0, .int .i64 a0_1, .int .i64 a0_2, .int .i64 a0_3, .int .i64 a0_4] 52 (0, 0)) (by (with_reducible repeat (first | refine zf ?_ _ | refine zi ?_ | refine ze ?_ _)); exact zz.out) hb); have n1_ := Aside0.mk (zl (by repeat (first | (with_reducible first | exact HB.out | apply zg | apply zd | apply zh | refine zj ?_ zB.out) | exact HB.out)) hb); clear zz; clear HB; have zz := n0_; have HB := n1_; clear n0_ n1_; (try clear hb); (try clear hb2); (try clear hk); (try clear hi)) | ((with_reducible refine zu (N := 7) rfl ?_); refine Kd.R_lit (Kd.int .u8) _ 5 ?hg (N := 7) ?hd (xs := ([] : List Int)) (inner := []) (ok := fun _ => True) (okp := fun _ => True) ?hr ?hp (fun _ hk => hk) trivial (Below.refl _ _) (Nat.le_refl _) (by simp) ?_; (case hd => rfl); (case hg => rfl); (case hr => first | (go_simp; done) | (go_simp; rfl)); (case hp => exact (Reps.none _ _)); intro v215 w51 zR hb hg_ hnew_; clear hg_ hnew_; (first | rw [← Ny214.out] at zR | (simp only [Int.reduceToNat] at zR; rw [← Ny214.out] at zR)); have n0_ := Aside0.mk (Kd.R_lower zR (zk (by repeat (first | (with_reducible first | exact HB.out | apply zg | apply zd | apply zh | refine zj ?_ zB.out) | exact HB.out)))); have n1_ := Aside0.mk (zr (g := zA) (o := .cells #[.int .i64 a0_0, .int .i64 a0_1, .int .i64 a0_2, .int .i64 a0_3, .int .i64 a0_4] 52 (0, 0)) (by (with_reducible repeat (first | refine zf ?_ _ | refine zi ?_ | refine ze ?_ _)); exact zz.out) hb); have n2_ := Aside0.mk (zl (by repeat (first | (with_reducible first | exact HB.out | apply zg | apply zd | apply zh | refine zj ?_ zB.out) | exact HB.out)) hb); clear zz; clear HB; have zJb := n0_; have zz := n1_; have HB := n2_; clear n0_ n1_ n2_; clear hb zR))
  go_ret
  exact ⟨_, by first | rfl | (simp [errW_none, errW_some] <;> rfl) | (simp [*, errW_none, errW_some] <;> rfl), by (with_reducible repeat (first | apply Kd.R_alloc | apply Kd.R_drewN | apply Kd.R_drew)); exact zJb.out, by repeat (first | (with_reducible first | exact HB.out | apply zg | apply zd | apply zh | refine zj ?_ zB.out) | exact HB.out)⟩

end Go.Proofs.Ytejecjjimggjeaa.GFnTornSuper
