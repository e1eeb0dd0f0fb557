/- Written by give.py, a program of this session, that runs the kit's print and lays contracts proved by hand beside it. -/
import Derived.Test.YtjoafknckmoojaaDoorGFnExactFormatDiskx0
import Derived.Test.YtjoafknckmoojaaDoorGFnExactFormatDiskx1
import Derived.Test.YtjoafknckmoojaaDoorGFnExactFormatDiskx4
namespace Go.Proofs.YtjoafknckmoojaaDoor.GFnExactFormatDisk
open Go.RowKit Go.Proofs.YtjoafknckmoojaaDoorW.PrintWords Go.Proofs.YtjoafknckmoojaaDoorW.PrintLast Go.Proofs.YtjoafknckmoojaaDoorW.PrintMore
attribute [local go_sem] max2_int min2_int max_two min_two max_three min_three max_four min_four Go.Proofs.YtjoafknckmoojaaDoorH.str_leq Go.Proofs.YtjoafknckmoojaaDoorH.str_geq Go.Proofs.YtjoafknckmoojaaDoorH.str_gtr   -- for this text's walks alone
set_option linter.unusedVariables false
set_option linter.unusedSimpArgs false

def spec_EncodeSuper.l0 : Nat → List Int → Int → Int → Int → Int → Int → Option (List Int)
 | 0, _, _, _, _, _, _ => none
 | k + 1, x3, x213000, x213001, x213002, x213003, x213004 => if (x3.length : Int) < 56 then ((some (([0] : List Int) : List Int)).bind fun y244 => (if x3.length + y244.length < 140737488355328 then (spec_EncodeSuper.l0 k (x3 ++ y244) x213000 x213001 x213002 x213003 x213004) else (none))) else ((spec_l4Big.f k x213000 8).bind fun t250 => (if x3.length + t250.length < 140737488355328 then (some (x3 ++ t250)) else (none)))
def spec_EncodeSuper.f (k : Nat) (a0_0 : Int) (a0_1 : Int) (a0_2 : Int) (a0_3 : Int) (a0_4 : Int) : Option (List Int) := (spec_l4ValidSuper.f a0_0 a0_1 a0_2 a0_3 a0_4).bind fun t213 => (if t213 = true then ((spec_l4Big.f k a0_0 8).bind fun t217 => ((some (([(a0_1) % 256] : List Int) : List Int)).bind fun y220 => (if t217.length + y220.length < 140737488355328 then ((some (t217 ++ y220 : List Int)).bind fun y223 => ((spec_l4Big.f k a0_2 4).bind fun t226 => (if y223.length + t226.length < 140737488355328 then ((some (y223 ++ t226 : List Int)).bind fun y229 => ((spec_l4Big.f k a0_3 4).bind fun t232 => (if y229.length + t232.length < 140737488355328 then ((some (y229 ++ t232 : List Int)).bind fun y235 => ((spec_l4Big.f k a0_4 4).bind fun t238 => (if y235.length + t238.length < 140737488355328 then (spec_EncodeSuper.l0 k (y235 ++ t238) a0_0 a0_1 a0_2 a0_3 a0_4) else (none)))) else (none)))) else (none)))) else (none)))) else (some (([] : List Int))))
theorem spec_EncodeSuper.mono_l : ∀ k, (∀ y0 y1 y2 y3 y4 y5, LeO (spec_EncodeSuper.l0 k y0 y1 y2 y3 y4 y5) (spec_EncodeSuper.l0 (k + 1) y0 y1 y2 y3 y4 y5))
 | 0 => fun _ _ _ _ _ _ r h => by simp [spec_EncodeSuper.l0] at h
 | k + 1 => by
  have ih0 := spec_EncodeSuper.mono_l k
  ·intro y0 y1 y2 y3 y4 y5
   unfold spec_EncodeSuper.l0
   repeat' first
   | (with_reducible exact ih0 _ _ _ _ _ _)
   | (with_reducible exact spec_l4Big.mono _ _ _)
   | (with_reducible exact LeO.refl _)
   | (with_reducible exact LeO.none _)
   | (with_reducible refine LeO.ite ?_ ?_)
   | (with_reducible refine LeO.bind ?_ (fun _ => ?_))
   | exact ih0 _ _ _ _ _ _
   | exact spec_l4Big.mono _ _ _
   | exact LeO.none _
   | refine LeO.ite ?_ ?_
   | refine LeO.bind ?_ (fun _ => ?_)
theorem spec_EncodeSuper.mono : ∀ a0 a1 a2 a3 a4 k, LeO (spec_EncodeSuper.f k a0 a1 a2 a3 a4) (spec_EncodeSuper.f (k + 1) a0 a1 a2 a3 a4) := by
 intro a0 a1 a2 a3 a4 k
 have ih0 := spec_EncodeSuper.mono_l k
 unfold spec_EncodeSuper.f
 repeat' first
   | (with_reducible exact ih0 _ _ _ _ _ _)
   | (with_reducible exact spec_l4Big.mono _ _ _)
   | (with_reducible exact LeO.refl _)
   | (with_reducible exact LeO.none _)
   | (with_reducible refine LeO.ite ?_ ?_)
   | (with_reducible refine LeO.bind ?_ (fun _ => ?_))
   | exact ih0 _ _ _ _ _ _
   | exact spec_l4Big.mono _ _ _
   | exact LeO.none _
   | refine LeO.ite ?_ ?_
   | refine LeO.bind ?_ (fun _ => ?_)
def spec_EncodeSuper.T3 : Bool × List (List Nat × List Nat) := (true, [([], []), ([0], [0]), ([1], [1]), ([], []), ([3], [3]), ([4], [4]), ([5], [5]), ([2, 6, 2], [2, 6]), ([7, 7, 0, 1, 2, 3, 4, 5, 6, 7], [7])])
def spec_EncodeSuper.B3 : List Nat := [0, 1, 3, 0, 8, 24, 56, 127, 255]
theorem spec_EncodeSuper.tab3 : rtab .any (opsOf Tryd.f76 3) = spec_EncodeSuper.T3 := by kernel_rfl
theorem spec_EncodeSuper.bits3 : waitsOk spec_EncodeSuper.T3.2 spec_EncodeSuper.B3 = true := by kernel_rfl
set_option maxHeartbeats 8000000 in
set_option maxRecDepth 100000 in
theorem spec_EncodeSuper.calls (k : Nat) (a0_0 : Int) (a0_1 : Int) (a0_2 : Int) (a0_3 : Int) (a0_4 : Int) (r : List Int) (w : World) (h : spec_EncodeSuper.f k a0_0 a0_1 a0_2 a0_3 a0_4 = some r) :
  Calls Tryd.prog 76 #[.agg #[.int .i64 a0_0, .int .i64 a0_1, .int .i64 a0_2, .int .i64 a0_3, .int .i64 a0_4]] w fun e w' => ∃ v0_ : Value, e = .returned (v0_) ∧ Kd.R (Kd.int .u8) 5 w' w.heap.size (fun _ => True) v0_ r ∧ Below w.heap.size w w' := by
 have hu113 := Tryd.underlying113
 have HB := Aside0.mk (Below.refl w.heap.size w)
 have H : ((spec_l4ValidSuper.f a0_0 a0_1 a0_2 a0_3 a0_4).bind fun t213 => (if t213 = true then ((spec_l4Big.f k a0_0 8).bind fun t217 => ((some (([(a0_1) % 256] : List Int) : List Int)).bind fun y220 => (if t217.length + y220.length < 140737488355328 then ((some (t217 ++ y220 : List Int)).bind fun y223 => ((spec_l4Big.f k a0_2 4).bind fun t226 => (if y223.length + t226.length < 140737488355328 then ((some (y223 ++ t226 : List Int)).bind fun y229 => ((spec_l4Big.f k a0_3 4).bind fun t232 => (if y229.length + t232.length < 140737488355328 then ((some (y229 ++ t232 : List Int)).bind fun y235 => ((spec_l4Big.f k a0_4 4).bind fun t238 => (if y235.length + t238.length < 140737488355328 then (spec_EncodeSuper.l0 k (y235 ++ t238) a0_0 a0_1 a0_2 a0_3 a0_4) else (none)))) else (none)))) else (none)))) else (none)))) else (some (([] : List Int))))) = some r := h
 clear h
 replace H := Option.bind_eq_some_iff.mp H
 obtain ⟨t213, A20, H⟩ := H
 replace H : (if t213 = true then ((spec_l4Big.f k a0_0 8).bind fun t217 => ((some (([(a0_1) % 256] : List Int) : List Int)).bind fun y220 => (if t217.length + y220.length < 140737488355328 then ((some (t217 ++ y220 : List Int)).bind fun y223 => ((spec_l4Big.f k a0_2 4).bind fun t226 => (if y223.length + t226.length < 140737488355328 then ((some (y223 ++ t226 : List Int)).bind fun y229 => ((spec_l4Big.f k a0_3 4).bind fun t232 => (if y229.length + t232.length < 140737488355328 then ((some (y229 ++ t232 : List Int)).bind fun y235 => ((spec_l4Big.f k a0_4 4).bind fun t238 => (if y235.length + t238.length < 140737488355328 then (spec_EncodeSuper.l0 k (y235 ++ t238) a0_0 a0_1 a0_2 a0_3 a0_4) else (none)))) else (none)))) else (none)))) else (none)))) else (some (([] : List Int)))) = some r := H
 have A2 := Aside0.mk A20
 clear A20
 by_cases c3 : t213 = true
 ·subst c3
  have H1 : ((spec_l4Big.f k a0_0 8).bind fun t217 => ((some (([(a0_1) % 256] : List Int) : List Int)).bind fun y220 => (if t217.length + y220.length < 140737488355328 then ((some (t217 ++ y220 : List Int)).bind fun y223 => ((spec_l4Big.f k a0_2 4).bind fun t226 => (if y223.length + t226.length < 140737488355328 then ((some (y223 ++ t226 : List Int)).bind fun y229 => ((spec_l4Big.f k a0_3 4).bind fun t232 => (if y229.length + t232.length < 140737488355328 then ((some (y229 ++ t232 : List Int)).bind fun y235 => ((spec_l4Big.f k a0_4 4).bind fun t238 => (if y235.length + t238.length < 140737488355328 then (spec_EncodeSuper.l0 k (y235 ++ t238) a0_0 a0_1 a0_2 a0_3 a0_4) else (none)))) else (none)))) else (none)))) else (none)))) = some r := by rw [if_pos rfl] at H; exact H
  clear H
  have H := H1
  clear H1
  replace H := Option.bind_eq_some_iff.mp H
  obtain ⟨t217, A40, H⟩ := H
  replace H : ((some (([(a0_1) % 256] : List Int) : List Int)).bind fun y220 => (if t217.length + y220.length < 140737488355328 then ((some (t217 ++ y220 : List Int)).bind fun y223 => ((spec_l4Big.f k a0_2 4).bind fun t226 => (if y223.length + t226.length < 140737488355328 then ((some (y223 ++ t226 : List Int)).bind fun y229 => ((spec_l4Big.f k a0_3 4).bind fun t232 => (if y229.length + t232.length < 140737488355328 then ((some (y229 ++ t232 : List Int)).bind fun y235 => ((spec_l4Big.f k a0_4 4).bind fun t238 => (if y235.length + t238.length < 140737488355328 then (spec_EncodeSuper.l0 k (y235 ++ t238) a0_0 a0_1 a0_2 a0_3 a0_4) else (none)))) else (none)))) else (none)))) else (none))) = some r := H
  have A4 := Aside0.mk A40
  clear A40
  obtain ⟨y220, hy220⟩ : ∃ y_ : List Int, y_ = (([(a0_1) % 256] : List Int)) := ⟨_, rfl⟩
  replace H : (if t217.length + y220.length < 140737488355328 then ((some (t217 ++ y220 : List Int)).bind fun y223 => ((spec_l4Big.f k a0_2 4).bind fun t226 => (if y223.length + t226.length < 140737488355328 then ((some (y223 ++ t226 : List Int)).bind fun y229 => ((spec_l4Big.f k a0_3 4).bind fun t232 => (if y229.length + t232.length < 140737488355328 then ((some (y229 ++ t232 : List Int)).bind fun y235 => ((spec_l4Big.f k a0_4 4).bind fun t238 => (if y235.length + t238.length < 140737488355328 then (spec_EncodeSuper.l0 k (y235 ++ t238) a0_0 a0_1 a0_2 a0_3 a0_4) else (none)))) else (none)))) else (none)))) else (none)) = some r := by first | (rw [hy220]; with_reducible exact H) | (have H2_ := (Option.bind_some _ _).symm.trans H; rw [hy220]; with_reducible exact H2_) | (have H2_ := (Option.bind_some _ _).symm.trans H; with_reducible exact H2_) | with_reducible exact H | (rw [hy220]; exact H) | exact H
  have Ny220 := Aside0.mk hy220
  clear hy220
  by_cases c5 : t217.length + y220.length < 140737488355328
  ·rw [if_pos c5] at H
   have LMc5 := Aside0.mk c5
   clear c5
   obtain ⟨y223, hy223⟩ : ∃ y_ : List Int, y_ = (t217 ++ y220) := ⟨_, rfl⟩
   replace H : ((spec_l4Big.f k a0_2 4).bind fun t226 => (if y223.length + t226.length < 140737488355328 then ((some (y223 ++ t226 : List Int)).bind fun y229 => ((spec_l4Big.f k a0_3 4).bind fun t232 => (if y229.length + t232.length < 140737488355328 then ((some (y229 ++ t232 : List Int)).bind fun y235 => ((spec_l4Big.f k a0_4 4).bind fun t238 => (if y235.length + t238.length < 140737488355328 then (spec_EncodeSuper.l0 k (y235 ++ t238) a0_0 a0_1 a0_2 a0_3 a0_4) else (none)))) else (none)))) else (none))) = some r := by first | (rw [hy223]; with_reducible exact H) | (have H2_ := (Option.bind_some _ _).symm.trans H; rw [hy223]; with_reducible exact H2_) | (have H2_ := (Option.bind_some _ _).symm.trans H; with_reducible exact H2_) | with_reducible exact H | (rw [hy223]; exact H) | exact H
   have Ny223 := Aside0.mk hy223
   clear hy223
   replace H := Option.bind_eq_some_iff.mp H
   obtain ⟨t226, A60, H⟩ := H
   replace H : (if y223.length + t226.length < 140737488355328 then ((some (y223 ++ t226 : List Int)).bind fun y229 => ((spec_l4Big.f k a0_3 4).bind fun t232 => (if y229.length + t232.length < 140737488355328 then ((some (y229 ++ t232 : List Int)).bind fun y235 => ((spec_l4Big.f k a0_4 4).bind fun t238 => (if y235.length + t238.length < 140737488355328 then (spec_EncodeSuper.l0 k (y235 ++ t238) a0_0 a0_1 a0_2 a0_3 a0_4) else (none)))) else (none)))) else (none)) = some r := H
   have A6 := Aside0.mk A60
   clear A60
   by_cases c7 : y223.length + t226.length < 140737488355328
   ·rw [if_pos c7] at H
    have LMc7 := Aside0.mk c7
    clear c7
    obtain ⟨y229, hy229⟩ : ∃ y_ : List Int, y_ = (y223 ++ t226) := ⟨_, rfl⟩
    replace H : ((spec_l4Big.f k a0_3 4).bind fun t232 => (if y229.length + t232.length < 140737488355328 then ((some (y229 ++ t232 : List Int)).bind fun y235 => ((spec_l4Big.f k a0_4 4).bind fun t238 => (if y235.length + t238.length < 140737488355328 then (spec_EncodeSuper.l0 k (y235 ++ t238) a0_0 a0_1 a0_2 a0_3 a0_4) else (none)))) else (none))) = some r := by first | (rw [hy229]; with_reducible exact H) | (have H2_ := (Option.bind_some _ _).symm.trans H; rw [hy229]; with_reducible exact H2_) | (have H2_ := (Option.bind_some _ _).symm.trans H; with_reducible exact H2_) | with_reducible exact H | (rw [hy229]; exact H) | exact H
    have Ny229 := Aside0.mk hy229
    clear hy229
    replace H := Option.bind_eq_some_iff.mp H
    obtain ⟨t232, A80, H⟩ := H
    replace H : (if y229.length + t232.length < 140737488355328 then ((some (y229 ++ t232 : List Int)).bind fun y235 => ((spec_l4Big.f k a0_4 4).bind fun t238 => (if y235.length + t238.length < 140737488355328 then (spec_EncodeSuper.l0 k (y235 ++ t238) a0_0 a0_1 a0_2 a0_3 a0_4) else (none)))) else (none)) = some r := H
    have A8 := Aside0.mk A80
    clear A80
    by_cases c9 : y229.length + t232.length < 140737488355328
    ·rw [if_pos c9] at H
     have LMc9 := Aside0.mk c9
     clear c9
     obtain ⟨y235, hy235⟩ : ∃ y_ : List Int, y_ = (y229 ++ t232) := ⟨_, rfl⟩
     replace H : ((spec_l4Big.f k a0_4 4).bind fun t238 => (if y235.length + t238.length < 140737488355328 then (spec_EncodeSuper.l0 k (y235 ++ t238) a0_0 a0_1 a0_2 a0_3 a0_4) else (none))) = some r := by first | (rw [hy235]; with_reducible exact H) | (have H2_ := (Option.bind_some _ _).symm.trans H; rw [hy235]; with_reducible exact H2_) | (have H2_ := (Option.bind_some _ _).symm.trans H; with_reducible exact H2_) | with_reducible exact H | (rw [hy235]; exact H) | exact H
     have Ny235 := Aside0.mk hy235
     clear hy235
     replace H := Option.bind_eq_some_iff.mp H
     obtain ⟨t238, A100, H⟩ := H
     replace H : (if y235.length + t238.length < 140737488355328 then (spec_EncodeSuper.l0 k (y235 ++ t238) a0_0 a0_1 a0_2 a0_3 a0_4) else (none)) = some r := H
     have A10 := Aside0.mk A100
     clear A100
     by_cases c11 : y235.length + t238.length < 140737488355328
     ·rw [if_pos c11] at H
      have LMc11 := Aside0.mk c11
      clear c11
      obtain ⟨y241, hy241⟩ : ∃ y_ : List Int, y_ = (y235 ++ t238) := ⟨_, rfl⟩
      replace H : (spec_EncodeSuper.l0 k y241 a0_0 a0_1 a0_2 a0_3 a0_4) = some r := by first | (rw [hy241]; with_reducible exact H) | (have H2_ := (Option.bind_some _ _).symm.trans H; rw [hy241]; with_reducible exact H2_) | (have H2_ := (Option.bind_some _ _).symm.trans H; with_reducible exact H2_) | with_reducible exact H | (rw [hy241]; exact H) | exact H
      have Ny241 := Aside0.mk hy241
      clear hy241
      have H' := Aside0.mk H
      clear H
      go_enter Tryd.func76, Tryd.ntmps76
      try go_wp2_with (first | ((with_reducible refine zr (N := 1) rfl ?_); refine zu ?hg (N := 1) ?hd (cs := #[.int .i64 a0_0, .int .i64 a0_1, .int .i64 a0_2, .int .i64 a0_3, .int .i64 a0_4]) (t := 113) ?hr ?_; (case hd => rfl); (case hg => rfl); (case hr => first | (go_simp; done) | (go_simp; rfl)); intro zB hg w12 hbox hb; have n0_ := Aside0.mk (zm (by repeat (first | (with_reducible first | exact HB.out | apply zd | apply zb | apply zc) | exact HB.out)) hb); have n1_ := Aside0.mk (hbox); have n2_ := Aside0.mk ((by rw [hg]; exact (zk (by repeat (first | (with_reducible first | exact HB.out | apply zd | apply zb | apply zc) | exact HB.out))) : w.heap.size ≤ zB)); have n3_ := Aside0.mk ((by rw [hg]; exact (zk (by repeat (first | (with_reducible first | exact HB.out | apply zd | apply zb | apply zc) | exact HB.out))) : w.heap.size ≤ zB)); clear HB; have HB := n0_; have zA := n1_; have GW212 := n2_; have zC := n3_; clear n0_ n1_ n2_ n3_; clear hb hbox hg; have zT : w12.cell? ⟨zB, 0, none⟩ = some (.int .i64 a0_0) := (ze zA.out 0).trans rfl; have zU : w12.cell? ⟨zB, 1, none⟩ = some (.int .i64 a0_1) := (ze zA.out 1).trans rfl; have zV : w12.cell? ⟨zB, 2, none⟩ = some (.int .i64 a0_2) := (ze zA.out 2).trans rfl; have zW : w12.cell? ⟨zB, 3, none⟩ = some (.int .i64 a0_3) := (ze zA.out 3).trans rfl; have zX : w12.cell? ⟨zB, 4, none⟩ = some (.int .i64 a0_4) := (ze zA.out 4).trans rfl; have zY := zg zA.out 0; have zZ := zg zA.out 1; have zab := zg zA.out 2; have zbb := zg zA.out 3; have zcb := zg zA.out 4) | ((with_reducible refine zn (f := 140) rfl ?_); refine zx (some 5) rfl rfl Tryd.func140 (by kernel_rfl) rfl #[.agg #[.int .i64 a0_0, .int .i64 a0_1, .int .i64 a0_2, .int .i64 a0_3, .int .i64 a0_4]] rfl (by (try simp only [List.map_toArray, List.map_cons, List.map_nil]); first | done | rfl | (simp only [List.length_drop, List.length_take]; rfl)) ?_; (with_reducible refine (spec_l4ValidSuper.calls a0_0 a0_1 a0_2 a0_3 a0_4 true _ A2.out).mono ?_); rintro e w14 ⟨rfl, hb⟩; refine ⟨_, rfl, ?_⟩; have n0_ := Aside0.mk (zo (g := zB) (o := .cells #[.int .i64 a0_0, .int .i64 a0_1, .int .i64 a0_2, .int .i64 a0_3, .int .i64 a0_4] 113 (0, 0)) (by (with_reducible repeat (first | refine zj ?_ _ | refine zl ?_ | refine zi ?_ _)); exact zA.out) hb); have n1_ := Aside0.mk (zm (by repeat (first | (with_reducible first | exact HB.out | apply zd | apply zb | apply zc | refine zh ?_ zC.out) | exact HB.out)) hb); clear zA; clear HB; have zA := n0_; have HB := n1_; clear n0_ n1_; (try clear hb); (try clear hb2); (try clear hk); (try clear hi)))
      have n0_ := Aside0.mk (zl zA.out)
      have n1_ := Aside0.mk (zc HB.out)
      clear zA
      clear HB
      have zA := n0_
      have HB := n1_
      clear n0_ n1_
      refine start_ (n := 9) (S := fun w' => w'.cell? ⟨zB, 0, none⟩ = some (.int .i64 a0_0) ∧ w'.cell? ⟨zB, 1, none⟩ = some (.int .i64 a0_1) ∧ w'.cell? ⟨zB, 2, none⟩ = some (.int .i64 a0_2) ∧ w'.cell? ⟨zB, 3, none⟩ = some (.int .i64 a0_3) ∧ w'.cell? ⟨zB, 4, none⟩ = some (.int .i64 a0_4)) (ds := []) #[false, false, false, false, false, false, false, false, false] (by kernel_rfl) rfl rfl ⟨(ze zA.out 0).trans rfl, (ze zA.out 1).trans rfl, (ze zA.out 2).trans rfl, (ze zA.out 3).trans rfl, (ze zA.out 4).trans rfl⟩ (fun hHeld => ?_); refine with_tabW spec_EncodeSuper.tab3 spec_EncodeSuper.bits3 (fun HT_ HW_ => ?_)
      generalize w14.drew = w15 at zA HB hHeld ⊢
      refine zv (i := 0) (N := some 8) (v := ?_) (a' := ?_) #[true, false, false, false, false, false, false, false, false] rfl rfl (zt HT_.out (by kernel_rfl)) (fun _ _ _ h => h) (Or.inl ⟨by rfl, ?_⟩) ?_ ?_
      rotate_left
      ·intro w'
       go_simp
       with_reducible rfl
      rotate_left
      ·simp only [Act.put, List.setIfInBounds_toArray, List.set_cons_zero, List.set_cons_succ, zp, zq]
       rfl
      refine zv (i := 3) (N := some 11) (v := ?_) (a' := ?_) #[true, false, false, true, false, false, false, false, false] rfl rfl (zt HT_.out (by kernel_rfl)) (fun _ _ _ h => h) (Or.inl ⟨by rfl, ?_⟩) ?_ ?_
      rotate_left
      ·intro w'
       go_simp
       with_reducible rfl
      rotate_left
      ·simp only [Act.put, List.setIfInBounds_toArray, List.set_cons_zero, List.set_cons_succ, zp, zq]
       rfl
      refine take_ (i := 1) (N := some 9) (v := ?_) (a' := ?_) #[true, true, false, true, false, false, false, false, false] rfl rfl (take_ofW HT_.out HW_.out (by kernel_rfl)) (fun _ _ _ h => h) (Or.inl ⟨by rfl, ?_⟩) hHeld ?_ ?_
      rotate_left
      ·rintro w' ⟨s0, s1, s2, s3, s4⟩
       go_simp
       with_reducible rfl
      rotate_left
      ·simp only [Act.put, List.setIfInBounds_toArray, List.set_cons_zero, List.set_cons_succ, zp, zq]
       rfl
      refine take_ (i := 4) (N := some 12) (v := ?_) (a' := ?_) #[true, true, false, true, true, false, false, false, false] rfl rfl (take_ofW HT_.out HW_.out (by kernel_rfl)) (fun _ _ _ h => h) (Or.inl ⟨by rfl, ?_⟩) hHeld ?_ ?_
      rotate_left
      ·rintro w' ⟨s0, s1, s2, s3, s4⟩
       go_simp
       with_reducible rfl
      rotate_left
      ·simp only [Act.put, List.setIfInBounds_toArray, List.set_cons_zero, List.set_cons_succ, zp, zq]
       rfl
      refine zv (i := 5) (N := some 13) (v := ?_) (a' := ?_) #[true, true, false, true, true, true, false, false, false] rfl rfl (zt HT_.out (by kernel_rfl)) (fun _ _ _ h => h) (Or.inl ⟨by rfl, ?_⟩) ?_ ?_
      rotate_left
      ·intro w'
       go_simp
       with_reducible rfl
      rotate_left
      ·simp only [Act.put, List.setIfInBounds_toArray, List.set_cons_zero, List.set_cons_succ, zp, zq]
       rfl
      refine join_ (σ := Value × Value) 2 #[true, true, true, true, true, true, true, false, false] (fun s_ => [(10, s_.1), (14, s_.2)]) (fun s_ w' => (w'.cell? ⟨zB, 0, none⟩ = some (.int .i64 a0_0) ∧ w'.cell? ⟨zB, 1, none⟩ = some (.int .i64 a0_1) ∧ w'.cell? ⟨zB, 2, none⟩ = some (.int .i64 a0_2) ∧ w'.cell? ⟨zB, 3, none⟩ = some (.int .i64 a0_3) ∧ w'.cell? ⟨zB, 4, none⟩ = some (.int .i64 a0_4)) ∧ (Kd.R (Kd.int .u8) 5 w' w.heap.size (fun k_ => some k_ ≠ (s_.2 : Value).ownBlock) s_.1 t217) ∧ (Kd.R (Kd.int .u8) 5 w' w.heap.size (fun k_ => some k_ ≠ (s_.1 : Value).ownBlock) s_.2 y220) ∧ (w'.heap[zB]? = some (.cells #[.int .i64 a0_0, .int .i64 a0_1, .int .i64 a0_2, .int .i64 a0_3, .int .i64 a0_4] 113 (0, 0))) ∧ (Below w.heap.size w w')) ?_ ?_
      rotate_left
      ·intro hCont
       refine two_ (i := 2) (j := 6) (Ni := some 10) (Nj := some 14) #[true, true, true, true, true, true, false, false, false] #[true, true, false, true, true, true, true, false, false] rfl rfl rfl rfl (two_of HT_.out (by kernel_rfl)) (by decide) (by decide) (fun K hK => ?_) (fun K hK => ?_)
       ·skip
        refine goes_ Tryd.func141 (by kernel_rfl) rfl #[.int .i64 a0_0, .int .i64 8] (by rfl) rfl rfl (by (try simp only [List.map_toArray, List.map_cons, List.map_nil]); first | done | rfl | (simp only [List.length_drop, List.length_take]; rfl)) ?_
        with_reducible refine (spec_l4Big.calls k a0_0 8 t217 _ A4.out).mono ?_
        rintro e w16 ⟨v218, rfl, zF, hb⟩
        refine ⟨_, rfl, ?_⟩
        have n0_ := Aside0.mk (Kd.R_lower zF (zk (by repeat (first | (with_reducible first | exact HB.out | apply zd | apply zb | apply zc | refine zh ?_ zC.out) | exact HB.out))))
        have n1_ := Aside0.mk (zo (g := zB) (o := .cells #[.int .i64 a0_0, .int .i64 a0_1, .int .i64 a0_2, .int .i64 a0_3, .int .i64 a0_4] 113 (0, 0)) (by (with_reducible repeat (first | refine zj ?_ _ | refine zl ?_ | refine zi ?_ _)); exact zA.out) hb)
        have n2_ := Aside0.mk (zm (by repeat (first | (with_reducible first | exact HB.out | apply zd | apply zb | apply zc | refine zh ?_ zC.out) | exact HB.out)) hb)
        clear zA
        clear HB
        have zI := n0_
        have zA := n1_
        have HB := n2_
        clear n0_ n1_ n2_
        (try clear hb)
        (try clear hb2)
        (try clear hk)
        (try clear hi)
        (try clear zF)
        refine hK.out _ _ ⟨(ze zA.out 0).trans rfl, (ze zA.out 1).trans rfl, (ze zA.out 2).trans rfl, (ze zA.out 3).trans rfl, (ze zA.out 4).trans rfl⟩ (fun hHeld => ?_)
        clear hK K
        refine norm_ (a' := ?_) ?_ ?_
        rotate_left
        ·show Act.put _ (some 10) _ = _
         simp only [Act.put, List.setIfInBounds_toArray, List.set_cons_zero, List.set_cons_succ, zp, zq]
         rfl
        refine one_ (i := 6) (N := some 14) #[true, true, true, true, true, true, true, false, false] rfl rfl (one_of HT_.out (by kernel_rfl)) (by decide) (fun K hK => ?_)
        refine Kd.R_lit_step (Kd.int .u8) _ 5 ?hg (N := 14) ?hd (xs := ([(a0_1) % 256] : List Int)) (inner := [.int .u8 ((a0_1) % 256)]) (ok := fun _ => True) (okp := fun _ => True) ?hr ?hp (fun _ hk => hk) trivial (Below.refl _ _) (Nat.le_refl _) (by simp) ?_; (case hd => rfl); (case hg => rfl); (case hr => first | (go_simp; done) | (go_simp; rfl)); (case hp => exact (Reps.one (show Kd.M (Kd.int .u8) _ _ _ ((a0_1) % 256) [.int .u8 ((a0_1) % 256)] from rfl) (Reps.none _ _)))
        intro v221 w17 zP hb hg_ hnew_
        clear hg_ hnew_
        (first | rw [← Ny220.out] at zP | (simp only [Int.reduceToNat] at zP; rw [← Ny220.out] at zP))
        have n0_ := Aside0.mk (Kd.R_elder' (by (with_reducible repeat (first | apply Kd.R_alloc | apply Kd.R_drewN | apply Kd.R_drew)); exact zI.out) (Kd.R_base zP) hb)
        have n1_ := Aside0.mk (Kd.R_lower (Kd.R_new' zP (Kd.R_lt (by (with_reducible repeat (first | apply Kd.R_alloc | apply Kd.R_drewN | apply Kd.R_drew)); exact zI.out))) (zk (by repeat (first | (with_reducible first | exact HB.out | apply zd | apply zb | apply zc | refine zh ?_ zC.out) | exact HB.out))))
        have n2_ := Aside0.mk (zo (g := zB) (o := .cells #[.int .i64 a0_0, .int .i64 a0_1, .int .i64 a0_2, .int .i64 a0_3, .int .i64 a0_4] 113 (0, 0)) (by (with_reducible repeat (first | refine zj ?_ _ | refine zl ?_ | refine zi ?_ _)); exact zA.out) hb)
        have n3_ := Aside0.mk (zm (by repeat (first | (with_reducible first | exact HB.out | apply zd | apply zb | apply zc | refine zh ?_ zC.out) | exact HB.out)) hb)
        clear zI
        clear zA
        clear HB
        have zI := n0_
        have zD := n1_
        have zA := n2_
        have HB := n3_
        clear n0_ n1_ n2_ n3_
        clear hb zP
        refine hK.out _ _ ⟨(ze zA.out 0).trans rfl, (ze zA.out 1).trans rfl, (ze zA.out 2).trans rfl, (ze zA.out 3).trans rfl, (ze zA.out 4).trans rfl⟩ (fun hHeld => ?_)
        clear hK K
        refine norm_ (a' := ?_) ?_ ?_
        rotate_left
        ·show Act.put _ (some 14) _ = _
         simp only [Act.put, List.setIfInBounds_toArray, List.set_cons_zero, List.set_cons_succ, zp, zq]
         rfl
        exact norm_ (by simp only [putAll, Act.put, List.setIfInBounds_toArray, List.set_cons_zero, List.set_cons_succ]) (hCont (v218, v221) _ ⟨hHeld, (by (with_reducible repeat (first | apply Kd.R_alloc | apply Kd.R_drewN | apply Kd.R_drew)); exact Kd.R_mono zI.out (fun _ hk => hk.2)), (by (with_reducible repeat (first | apply Kd.R_alloc | apply Kd.R_drewN | apply Kd.R_drew)); exact Kd.R_mono zD.out (fun _ hk => hk.2)), (by (with_reducible repeat (first | refine zj ?_ _ | refine zl ?_ | refine zi ?_ _)); exact zA.out), (by repeat (first | (with_reducible first | exact HB.out | apply zd | apply zb | apply zc | refine zh ?_ zC.out) | exact HB.out))⟩)
       ·skip
        refine Kd.R_lit_step (Kd.int .u8) _ 5 ?hg (N := 14) ?hd (xs := ([(a0_1) % 256] : List Int)) (inner := [.int .u8 ((a0_1) % 256)]) (ok := fun _ => True) (okp := fun _ => True) ?hr ?hp (fun _ hk => hk) trivial (Below.refl _ _) (Nat.le_refl _) (by simp) ?_; (case hd => rfl); (case hg => rfl); (case hr => first | (go_simp; done) | (go_simp; rfl)); (case hp => exact (Reps.one (show Kd.M (Kd.int .u8) _ _ _ ((a0_1) % 256) [.int .u8 ((a0_1) % 256)] from rfl) (Reps.none _ _)))
        intro v221 w16 zR hb hg_ hnew_
        clear hg_ hnew_
        (first | rw [← Ny220.out] at zR | (simp only [Int.reduceToNat] at zR; rw [← Ny220.out] at zR))
        have n0_ := Aside0.mk (Kd.R_lower zR (zk (by repeat (first | (with_reducible first | exact HB.out | apply zd | apply zb | apply zc | refine zh ?_ zC.out) | exact HB.out))))
        have n1_ := Aside0.mk (zo (g := zB) (o := .cells #[.int .i64 a0_0, .int .i64 a0_1, .int .i64 a0_2, .int .i64 a0_3, .int .i64 a0_4] 113 (0, 0)) (by (with_reducible repeat (first | refine zj ?_ _ | refine zl ?_ | refine zi ?_ _)); exact zA.out) hb)
        have n2_ := Aside0.mk (zm (by repeat (first | (with_reducible first | exact HB.out | apply zd | apply zb | apply zc | refine zh ?_ zC.out) | exact HB.out)) hb)
        clear zA
        clear HB
        have zD := n0_
        have zA := n1_
        have HB := n2_
        clear n0_ n1_ n2_
        clear hb zR
        refine hK.out _ _ ⟨(ze zA.out 0).trans rfl, (ze zA.out 1).trans rfl, (ze zA.out 2).trans rfl, (ze zA.out 3).trans rfl, (ze zA.out 4).trans rfl⟩ (fun hHeld => ?_)
        clear hK K
        refine norm_ (a' := ?_) ?_ ?_
        rotate_left
        ·show Act.put _ (some 14) _ = _
         simp only [Act.put, List.setIfInBounds_toArray, List.set_cons_zero, List.set_cons_succ, zp, zq]
         rfl
        refine one_ (i := 2) (N := some 10) #[true, true, true, true, true, true, true, false, false] rfl rfl (one_of HT_.out (by kernel_rfl)) (by decide) (fun K hK => ?_)
        refine goes_ Tryd.func141 (by kernel_rfl) rfl #[.int .i64 a0_0, .int .i64 8] (by rfl) rfl rfl (by (try simp only [List.map_toArray, List.map_cons, List.map_nil]); first | done | rfl | (simp only [List.length_drop, List.length_take]; rfl)) ?_
        with_reducible refine (spec_l4Big.calls k a0_0 8 t217 _ A4.out).mono ?_
        rintro e w18 ⟨v218, rfl, zF, hb⟩
        refine ⟨_, rfl, ?_⟩
        have n0_ := Aside0.mk (Kd.R_elder' (by (with_reducible repeat (first | apply Kd.R_alloc | apply Kd.R_drewN | apply Kd.R_drew)); exact zD.out) (Kd.R_base zF) hb)
        have n1_ := Aside0.mk (Kd.R_lower (Kd.R_new' zF (Kd.R_lt (by (with_reducible repeat (first | apply Kd.R_alloc | apply Kd.R_drewN | apply Kd.R_drew)); exact zD.out))) (zk (by repeat (first | (with_reducible first | exact HB.out | apply zd | apply zb | apply zc | refine zh ?_ zC.out) | exact HB.out))))
        have n2_ := Aside0.mk (zo (g := zB) (o := .cells #[.int .i64 a0_0, .int .i64 a0_1, .int .i64 a0_2, .int .i64 a0_3, .int .i64 a0_4] 113 (0, 0)) (by (with_reducible repeat (first | refine zj ?_ _ | refine zl ?_ | refine zi ?_ _)); exact zA.out) hb)
        have n3_ := Aside0.mk (zm (by repeat (first | (with_reducible first | exact HB.out | apply zd | apply zb | apply zc | refine zh ?_ zC.out) | exact HB.out)) hb)
        clear zD
        clear zA
        clear HB
        have zD := n0_
        have zI := n1_
        have zA := n2_
        have HB := n3_
        clear n0_ n1_ n2_ n3_
        (try clear hb)
        (try clear hb2)
        (try clear hk)
        (try clear hi)
        (try clear zF)
        refine hK.out _ _ ⟨(ze zA.out 0).trans rfl, (ze zA.out 1).trans rfl, (ze zA.out 2).trans rfl, (ze zA.out 3).trans rfl, (ze zA.out 4).trans rfl⟩ (fun hHeld => ?_)
        clear hK K
        refine norm_ (a' := ?_) ?_ ?_
        rotate_left
        ·show Act.put _ (some 10) _ = _
         simp only [Act.put, List.setIfInBounds_toArray, List.set_cons_zero, List.set_cons_succ, zp, zq]
         rfl
        exact norm_ (by simp only [putAll, Act.put, List.setIfInBounds_toArray, List.set_cons_zero, List.set_cons_succ]) (hCont (v218, v221) _ ⟨hHeld, (by (with_reducible repeat (first | apply Kd.R_alloc | apply Kd.R_drewN | apply Kd.R_drew)); exact Kd.R_mono zI.out (fun _ hk => hk.2)), (by (with_reducible repeat (first | apply Kd.R_alloc | apply Kd.R_drewN | apply Kd.R_drew)); exact Kd.R_mono zD.out (fun _ hk => hk.2)), (by (with_reducible repeat (first | refine zj ?_ _ | refine zl ?_ | refine zi ?_ _)); exact zA.out), (by repeat (first | (with_reducible first | exact HB.out | apply zd | apply zb | apply zc | refine zh ?_ zC.out) | exact HB.out))⟩)
      rintro ⟨v218, v221⟩ w19 ⟨hS_, h0_, h1_, h2_, h3_⟩
      have n0_ : Aside0 (Kd.R (Kd.int .u8) 5 w19 w.heap.size (fun k_ => some k_ ≠ (v221 : Value).ownBlock) v218 t217) := ⟨h0_⟩
      have n1_ : Aside0 (Kd.R (Kd.int .u8) 5 w19 w.heap.size (fun k_ => some k_ ≠ (v218 : Value).ownBlock) v221 y220) := ⟨h1_⟩
      have n2_ : Aside0 (w19.heap[zB]? = some (.cells #[.int .i64 a0_0, .int .i64 a0_1, .int .i64 a0_2, .int .i64 a0_3, .int .i64 a0_4] 113 (0, 0))) := ⟨h2_⟩
      have n3_ : Aside0 (Below w.heap.size w w19) := ⟨h3_⟩
      clear zA
      clear HB
      clear h0_ h1_ h2_ h3_
      have zI := n0_
      have zD := n1_
      have zA := n2_
      have HB := n3_
      clear n0_ n1_ n2_ n3_
      have hHeld : w19.cell? ⟨zB, 0, none⟩ = some (.int .i64 a0_0) ∧ w19.cell? ⟨zB, 1, none⟩ = some (.int .i64 a0_1) ∧ w19.cell? ⟨zB, 2, none⟩ = some (.int .i64 a0_2) ∧ w19.cell? ⟨zB, 3, none⟩ = some (.int .i64 a0_3) ∧ w19.cell? ⟨zB, 4, none⟩ = some (.int .i64 a0_4) := hS_
      obtain ⟨Ao21, co21, eo21⟩ := Kd.R_slice zD.out
      (first | subst eo21 | (injection eo21 with f1_ f2_ f3_; have f4_ := f1_.symm; have f5_ := f3_.symm; clear f1_ f2_ f3_; subst f4_; subst f5_))
      refine norm_ (a' := ?_) ?_ ?_
      rotate_left
      ·simp only [putAll, Act.put, List.setIfInBounds_toArray, List.set_cons_zero, List.set_cons_succ]
       rfl
      refine one_ (i := 7) (N := some 15) #[true, true, true, true, true, true, true, true, false] rfl rfl (one_of HT_.out (by kernel_rfl)) (by decide) (fun K hK => ?_)
      refine Kd.R_append_rows_step (Kd.int .u8) (w0 := w) w.heap.size (by rfl) (.tmp 10) (.tmp 14) 22 5 (.int .u8 0) 1 rfl Tryd.underlying22 info5 rfl (by decide) (by omega) v218 t217 y220 _ _ _ (fun k_ => some k_ ≠ (.slice Ao21 y220.length co21 : Value).ownBlock) (fun _ => False) rfl rfl ?aO ?aR (fun _ _ h => h) (fun _ h => h.elim) ?aF ?aB ?aS ?aL ?_
      (case aR => repeat (first | exact (Kd.R_reads' zD.out).2.2 | (with_reducible refine Kd.C_alloc ?_ _) | (with_reducible refine Kd.C_drewN ?_ _) | (with_reducible refine Kd.C_drew ?_)))
      (case aB => exact (by repeat (first | (with_reducible first | exact HB.out | apply zd | apply zb | apply zc | refine zh ?_ zC.out) | exact HB.out)))
      (case aF => exact (fun k_ hk => Kd.fresh' (Kd.R_lt (by (with_reducible repeat (first | apply Kd.R_alloc | apply Kd.R_drewN | apply Kd.R_drew)); exact zD.out)) k_ hk))
      (case aO => exact (by (with_reducible repeat (first | apply Kd.R_alloc | apply Kd.R_drewN | apply Kd.R_drew)); exact zI.out))
      (case aS => exact (zk (by repeat (first | (with_reducible first | exact HB.out | apply zd | apply zb | apply zc | refine zh ?_ zC.out) | exact HB.out))))
      (case aL => have := LMc5.out; omega)
      intro v224 w20 ho hb hg hat
      rw [← Ny223.out] at ho
      have n0_ := Aside0.mk (zz (g := zB) (o := .cells #[.int .i64 a0_0, .int .i64 a0_1, .int .i64 a0_2, .int .i64 a0_3, .int .i64 a0_4] 113 (0, 0)) (by (with_reducible repeat (first | refine zj ?_ _ | refine zl ?_ | refine zi ?_ _)); exact zA.out) hg (Kd.R_ne zI.out zA.out (by decide)))
      have n1_ := Aside0.mk (Kd.R_after (ok := (fun _ => True)) (by (with_reducible repeat (first | apply Kd.R_alloc | apply Kd.R_drewN | apply Kd.R_drew)); exact Kd.R_mono zD.out (fun _ hk => ⟨trivial, hk⟩)) hg hat)
      have n2_ := Aside0.mk (hb)
      have n3_ := Aside0.mk (ho)
      clear zA
      clear zD
      clear HB
      clear zI
      have zA := n0_
      have zD := n1_
      have HB := n2_
      have zJ := n3_
      clear n0_ n1_ n2_ n3_
      clear ho hb hg hat
      refine hK.out _ _ ⟨(ze zA.out 0).trans rfl, (ze zA.out 1).trans rfl, (ze zA.out 2).trans rfl, (ze zA.out 3).trans rfl, (ze zA.out 4).trans rfl⟩ (fun hHeld => ?_)
      clear hK K
      refine norm_ (a' := ?_) ?_ ?_
      rotate_left
      ·show Act.put _ (some 15) _ = _
       simp only [Act.put, List.setIfInBounds_toArray, List.set_cons_zero, List.set_cons_succ, zp, zq]
       rfl
      refine zv (i := 8) (N := some 3) (v := ?_) (a' := ?_) #[true, true, true, true, true, true, true, true, true] rfl rfl (zt HT_.out (by kernel_rfl)) (fun _ _ _ h => h) (Or.inl ⟨by rfl, ?_⟩) ?_ ?_
      rotate_left
      ·intro w'
       go_simp
       with_reducible rfl
      rotate_left
      ·simp only [Act.put, List.setIfInBounds_toArray, List.set_cons_zero, List.set_cons_succ, zp, zq]
       rfl
      refine done_ (done_of HT_.out (by kernel_rfl)) ?_
      have zdb : w20.cell? ⟨zB, 0, none⟩ = some (.int .i64 a0_0) := (ze zA.out 0).trans rfl
      have zeb : w20.cell? ⟨zB, 1, none⟩ = some (.int .i64 a0_1) := (ze zA.out 1).trans rfl
      have zfb : w20.cell? ⟨zB, 2, none⟩ = some (.int .i64 a0_2) := (ze zA.out 2).trans rfl
      have zgb : w20.cell? ⟨zB, 3, none⟩ = some (.int .i64 a0_3) := (ze zA.out 3).trans rfl
      have zhb : w20.cell? ⟨zB, 4, none⟩ = some (.int .i64 a0_4) := (ze zA.out 4).trans rfl
      have zib := zg zA.out 0
      have zjb := zg zA.out 1
      have zkb := zg zA.out 2
      have zlb := zg zA.out 3
      have zmb := zg zA.out 4
      try go_wp2_with (first | ((with_reducible refine zn (f := 141) rfl ?_); refine zx (some 19) rfl rfl Tryd.func141 (by kernel_rfl) rfl #[.int .i64 a0_2, .int .i64 4] rfl (by (try simp only [List.map_toArray, List.map_cons, List.map_nil]); first | done | rfl | (simp only [List.length_drop, List.length_take]; rfl)) ?_; (with_reducible refine (spec_l4Big.calls k a0_2 4 t226 _ A6.out).mono ?_); rintro e w23 ⟨v227, rfl, zF, hb⟩; refine ⟨_, rfl, ?_⟩; have n0_ := Aside0.mk (Kd.R_elder' (by (with_reducible repeat (first | apply Kd.R_alloc | apply Kd.R_drewN | apply Kd.R_drew)); exact zD.out) (Kd.R_base zF) hb); have n1_ := Aside0.mk (Kd.R_elder' (by (with_reducible repeat (first | apply Kd.R_alloc | apply Kd.R_drewN | apply Kd.R_drew)); exact zJ.out) (Kd.R_base zF) hb); have n2_ := Aside0.mk (Kd.R_lower (Kd.R_new' (Kd.R_new' zF (Kd.R_lt (by (with_reducible repeat (first | apply Kd.R_alloc | apply Kd.R_drewN | apply Kd.R_drew)); exact zD.out))) (Kd.R_lt (by (with_reducible repeat (first | apply Kd.R_alloc | apply Kd.R_drewN | apply Kd.R_drew)); exact zJ.out))) (zk (by repeat (first | (with_reducible first | exact HB.out | apply zd | apply zb | apply zc | refine zh ?_ zC.out) | exact HB.out)))); have n3_ := Aside0.mk (zo (g := zB) (o := .cells #[.int .i64 a0_0, .int .i64 a0_1, .int .i64 a0_2, .int .i64 a0_3, .int .i64 a0_4] 113 (0, 0)) (by (with_reducible repeat (first | refine zj ?_ _ | refine zl ?_ | refine zi ?_ _)); exact zA.out) hb); have n4_ := Aside0.mk (zm (by repeat (first | (with_reducible first | exact HB.out | apply zd | apply zb | apply zc | refine zh ?_ zC.out) | exact HB.out)) hb); clear zD; clear zJ; clear zA; clear HB; have zD := n0_; have zJ := n1_; have zE := n2_; have zA := n3_; have HB := n4_; clear n0_ n1_ n2_ n3_ n4_; (try clear hb); (try clear hb2); (try clear hk); (try clear hi); (try clear zF); obtain ⟨Ao25, co25, eo25⟩ := Kd.R_slice zE.out; subst eo25) | ((with_reducible refine gate_builtin (b := .append) (xs := #[.tmp 16, .tmp 19]) rfl ?_); at_builtin; refine Kd.R_append_rows (Kd.int .u8) (w0 := w) w.heap.size rfl (.tmp 16) (.tmp 19) 22 5 (.int .u8 0) 1 rfl Tryd.underlying22 info5 rfl (by decide) (by omega) v224 y223 t226 _ _ _ (fun k_ => some k_ ≠ (.slice Ao21 y220.length co21 : Value).ownBlock ∧ some k_ ≠ (.slice Ao25 t226.length co25 : Value).ownBlock) (fun _ => False) rfl rfl ?aO ?aR (fun _ _ h => h) (fun _ h => h.elim) ?aF ?aB ?aS ?aL ?_; (case aR => repeat (first | exact (Kd.R_reads' zE.out).2.2 | (with_reducible refine Kd.C_alloc ?_ _) | (with_reducible refine Kd.C_drewN ?_ _) | (with_reducible refine Kd.C_drew ?_))); (case aB => exact (by repeat (first | (with_reducible first | exact HB.out | apply zd | apply zb | apply zc | refine zh ?_ zC.out) | exact HB.out))); (case aF => exact (fun k_ hk => ⟨Kd.fresh' (Kd.R_lt (by (with_reducible repeat (first | apply Kd.R_alloc | apply Kd.R_drewN | apply Kd.R_drew)); exact zD.out)) k_ hk, Kd.fresh' (Kd.R_lt (by (with_reducible repeat (first | apply Kd.R_alloc | apply Kd.R_drewN | apply Kd.R_drew)); exact zE.out)) k_ hk⟩)); (case aO => exact (by (with_reducible repeat (first | apply Kd.R_alloc | apply Kd.R_drewN | apply Kd.R_drew)); exact zJ.out)); (case aS => exact (zk (by repeat (first | (with_reducible first | exact HB.out | apply zd | apply zb | apply zc | refine zh ?_ zC.out) | exact HB.out)))); (case aL => have := LMc7.out; omega); intro v230 w24 ho hb hg hat; rw [← Ny229.out] at ho; have n0_ := Aside0.mk (zz (g := zB) (o := .cells #[.int .i64 a0_0, .int .i64 a0_1, .int .i64 a0_2, .int .i64 a0_3, .int .i64 a0_4] 113 (0, 0)) (by (with_reducible repeat (first | refine zj ?_ _ | refine zl ?_ | refine zi ?_ _)); exact zA.out) hg (Kd.R_ne zJ.out zA.out (by decide))); have n1_ := Aside0.mk (Kd.R_after (ok := (fun k_ => some k_ ≠ (.slice Ao25 t226.length co25 : Value).ownBlock)) (by (with_reducible repeat (first | apply Kd.R_alloc | apply Kd.R_drewN | apply Kd.R_drew)); exact Kd.R_mono zD.out (fun _ hk => ⟨hk.2, hk.1.2⟩)) hg hat); have n2_ := Aside0.mk (Kd.R_after (ok := (fun k_ => some k_ ≠ (.slice Ao21 y220.length co21 : Value).ownBlock)) (by (with_reducible repeat (first | apply Kd.R_alloc | apply Kd.R_drewN | apply Kd.R_drew)); exact Kd.R_mono zE.out (fun _ hk => ⟨hk.1.2, hk.2⟩)) hg hat); have n3_ := Aside0.mk (hb); have n4_ := Aside0.mk (ho); clear zA; clear zD; clear zE; clear HB; clear zJ; have zA := n0_; have zD := n1_; have zE := n2_; have HB := n3_; have zK := n4_; clear n0_ n1_ n2_ n3_ n4_; clear ho hb hg hat; have znb : w24.cell? ⟨zB, 0, none⟩ = some (.int .i64 a0_0) := (ze zA.out 0).trans rfl; have zob : w24.cell? ⟨zB, 1, none⟩ = some (.int .i64 a0_1) := (ze zA.out 1).trans rfl; have zpb : w24.cell? ⟨zB, 2, none⟩ = some (.int .i64 a0_2) := (ze zA.out 2).trans rfl; have zqb : w24.cell? ⟨zB, 3, none⟩ = some (.int .i64 a0_3) := (ze zA.out 3).trans rfl; have zrb : w24.cell? ⟨zB, 4, none⟩ = some (.int .i64 a0_4) := (ze zA.out 4).trans rfl; have zsb := zg zA.out 0; have ztb := zg zA.out 1; have zub := zg zA.out 2; have zvb := zg zA.out 3; have zwb := zg zA.out 4) | ((with_reducible refine zn (f := 141) rfl ?_); refine zx (some 24) rfl rfl Tryd.func141 (by kernel_rfl) rfl #[.int .i64 a0_3, .int .i64 4] rfl (by (try simp only [List.map_toArray, List.map_cons, List.map_nil]); first | done | rfl | (simp only [List.length_drop, List.length_take]; rfl)) ?_; (with_reducible refine (spec_l4Big.calls k a0_3 4 t232 _ A8.out).mono ?_); rintro e w27 ⟨v233, rfl, zF, hb⟩; refine ⟨_, rfl, ?_⟩; have n0_ := Aside0.mk (Kd.R_elder' (by (with_reducible repeat (first | apply Kd.R_alloc | apply Kd.R_drewN | apply Kd.R_drew)); exact zD.out) (Kd.R_base zF) hb); have n1_ := Aside0.mk (Kd.R_elder' (by (with_reducible repeat (first | apply Kd.R_alloc | apply Kd.R_drewN | apply Kd.R_drew)); exact zE.out) (Kd.R_base zF) hb); have n2_ := Aside0.mk (Kd.R_elder' (by (with_reducible repeat (first | apply Kd.R_alloc | apply Kd.R_drewN | apply Kd.R_drew)); exact zK.out) (Kd.R_base zF) hb); have n3_ := Aside0.mk (Kd.R_lower (Kd.R_new' (Kd.R_new' (Kd.R_new' zF (Kd.R_lt (by (with_reducible repeat (first | apply Kd.R_alloc | apply Kd.R_drewN | apply Kd.R_drew)); exact zD.out))) (Kd.R_lt (by (with_reducible repeat (first | apply Kd.R_alloc | apply Kd.R_drewN | apply Kd.R_drew)); exact zE.out))) (Kd.R_lt (by (with_reducible repeat (first | apply Kd.R_alloc | apply Kd.R_drewN | apply Kd.R_drew)); exact zK.out))) (zk (by repeat (first | (with_reducible first | exact HB.out | apply zd | apply zb | apply zc | refine zh ?_ zC.out) | exact HB.out)))); have n4_ := Aside0.mk (zo (g := zB) (o := .cells #[.int .i64 a0_0, .int .i64 a0_1, .int .i64 a0_2, .int .i64 a0_3, .int .i64 a0_4] 113 (0, 0)) (by (with_reducible repeat (first | refine zj ?_ _ | refine zl ?_ | refine zi ?_ _)); exact zA.out) hb); have n5_ := Aside0.mk (zm (by repeat (first | (with_reducible first | exact HB.out | apply zd | apply zb | apply zc | refine zh ?_ zC.out) | exact HB.out)) hb); clear zD; clear zE; clear zK; clear zA; clear HB; have zD := n0_; have zE := n1_; have zK := n2_; have zG := n3_; have zA := n4_; have HB := n5_; clear n0_ n1_ n2_ n3_ n4_ n5_; (try clear hb); (try clear hb2); (try clear hk); (try clear hi); (try clear zF); obtain ⟨Ao29, co29, eo29⟩ := Kd.R_slice zG.out; subst eo29) | ((with_reducible refine gate_builtin (b := .append) (xs := #[.tmp 21, .tmp 24]) rfl ?_); at_builtin; refine Kd.R_append_rows (Kd.int .u8) (w0 := w) w.heap.size rfl (.tmp 21) (.tmp 24) 22 5 (.int .u8 0) 1 rfl Tryd.underlying22 info5 rfl (by decide) (by omega) v230 y229 t232 _ _ _ (fun k_ => some k_ ≠ (.slice Ao21 y220.length co21 : Value).ownBlock ∧ some k_ ≠ (.slice Ao25 t226.length co25 : Value).ownBlock ∧ some k_ ≠ (.slice Ao29 t232.length co29 : Value).ownBlock) (fun _ => False) rfl rfl ?aO ?aR (fun _ _ h => h) (fun _ h => h.elim) ?aF ?aB ?aS ?aL ?_; (case aR => repeat (first | exact (Kd.R_reads' zG.out).2.2 | (with_reducible refine Kd.C_alloc ?_ _) | (with_reducible refine Kd.C_drewN ?_ _) | (with_reducible refine Kd.C_drew ?_))); (case aB => exact (by repeat (first | (with_reducible first | exact HB.out | apply zd | apply zb | apply zc | refine zh ?_ zC.out) | exact HB.out))); (case aF => exact (fun k_ hk => ⟨Kd.fresh' (Kd.R_lt (by (with_reducible repeat (first | apply Kd.R_alloc | apply Kd.R_drewN | apply Kd.R_drew)); exact zD.out)) k_ hk, Kd.fresh' (Kd.R_lt (by (with_reducible repeat (first | apply Kd.R_alloc | apply Kd.R_drewN | apply Kd.R_drew)); exact zE.out)) k_ hk, Kd.fresh' (Kd.R_lt (by (with_reducible repeat (first | apply Kd.R_alloc | apply Kd.R_drewN | apply Kd.R_drew)); exact zG.out)) k_ hk⟩)); (case aO => exact (by (with_reducible repeat (first | apply Kd.R_alloc | apply Kd.R_drewN | apply Kd.R_drew)); exact Kd.R_mono zK.out (fun _ hk => ⟨hk.1.1, ⟨hk.1.2, hk.2⟩⟩))); (case aS => exact (zk (by repeat (first | (with_reducible first | exact HB.out | apply zd | apply zb | apply zc | refine zh ?_ zC.out) | exact HB.out)))); (case aL => have := LMc9.out; omega); intro v236 w28 ho hb hg hat; rw [← Ny235.out] at ho; have n0_ := Aside0.mk (zz (g := zB) (o := .cells #[.int .i64 a0_0, .int .i64 a0_1, .int .i64 a0_2, .int .i64 a0_3, .int .i64 a0_4] 113 (0, 0)) (by (with_reducible repeat (first | refine zj ?_ _ | refine zl ?_ | refine zi ?_ _)); exact zA.out) hg (Kd.R_ne zK.out zA.out (by decide))); have n1_ := Aside0.mk (Kd.R_after (ok := (fun k_ => some k_ ≠ (.slice Ao25 t226.length co25 : Value).ownBlock ∧ some k_ ≠ (.slice Ao29 t232.length co29 : Value).ownBlock)) (by (with_reducible repeat (first | apply Kd.R_alloc | apply Kd.R_drewN | apply Kd.R_drew)); exact Kd.R_mono zD.out (fun _ hk => ⟨⟨hk.1.1, hk.2⟩, hk.1.2⟩)) hg hat); have n2_ := Aside0.mk (Kd.R_after (ok := (fun k_ => some k_ ≠ (.slice Ao21 y220.length co21 : Value).ownBlock ∧ some k_ ≠ (.slice Ao29 t232.length co29 : Value).ownBlock)) (by (with_reducible repeat (first | apply Kd.R_alloc | apply Kd.R_drewN | apply Kd.R_drew)); exact Kd.R_mono zE.out (fun _ hk => ⟨⟨hk.1.1, hk.2⟩, hk.1.2⟩)) hg hat); have n3_ := Aside0.mk (Kd.R_after (ok := (fun k_ => some k_ ≠ (.slice Ao21 y220.length co21 : Value).ownBlock ∧ some k_ ≠ (.slice Ao25 t226.length co25 : Value).ownBlock)) (by (with_reducible repeat (first | apply Kd.R_alloc | apply Kd.R_drewN | apply Kd.R_drew)); exact Kd.R_mono zG.out (fun _ hk => ⟨⟨hk.1.1.2, hk.1.2⟩, hk.2⟩)) hg hat); have n4_ := Aside0.mk (hb); have n5_ := Aside0.mk (ho); clear zA; clear zD; clear zE; clear zG; clear HB; clear zK; have zA := n0_; have zD := n1_; have zE := n2_; have zG := n3_; have HB := n4_; have zL := n5_; clear n0_ n1_ n2_ n3_ n4_ n5_; clear ho hb hg hat; have zxb : w28.cell? ⟨zB, 0, none⟩ = some (.int .i64 a0_0) := (ze zA.out 0).trans rfl; have zyb : w28.cell? ⟨zB, 1, none⟩ = some (.int .i64 a0_1) := (ze zA.out 1).trans rfl; have zzb : w28.cell? ⟨zB, 2, none⟩ = some (.int .i64 a0_2) := (ze zA.out 2).trans rfl; have zAb : w28.cell? ⟨zB, 3, none⟩ = some (.int .i64 a0_3) := (ze zA.out 3).trans rfl; have zBb : w28.cell? ⟨zB, 4, none⟩ = some (.int .i64 a0_4) := (ze zA.out 4).trans rfl; have zCb := zg zA.out 0; have zDb := zg zA.out 1; have zEb := zg zA.out 2; have zFb := zg zA.out 3; have zGb := zg zA.out 4) | ((with_reducible refine zn (f := 141) rfl ?_); refine zx (some 29) rfl rfl Tryd.func141 (by kernel_rfl) rfl #[.int .i64 a0_4, .int .i64 4] rfl (by (try simp only [List.map_toArray, List.map_cons, List.map_nil]); first | done | rfl | (simp only [List.length_drop, List.length_take]; rfl)) ?_; (with_reducible refine (spec_l4Big.calls k a0_4 4 t238 _ A10.out).mono ?_); rintro e w31 ⟨v239, rfl, zF, hb⟩; refine ⟨_, rfl, ?_⟩; have n0_ := Aside0.mk (Kd.R_elder' (by (with_reducible repeat (first | apply Kd.R_alloc | apply Kd.R_drewN | apply Kd.R_drew)); exact zD.out) (Kd.R_base zF) hb); have n1_ := Aside0.mk (Kd.R_elder' (by (with_reducible repeat (first | apply Kd.R_alloc | apply Kd.R_drewN | apply Kd.R_drew)); exact zE.out) (Kd.R_base zF) hb); have n2_ := Aside0.mk (Kd.R_elder' (by (with_reducible repeat (first | apply Kd.R_alloc | apply Kd.R_drewN | apply Kd.R_drew)); exact zG.out) (Kd.R_base zF) hb); have n3_ := Aside0.mk (Kd.R_elder' (by (with_reducible repeat (first | apply Kd.R_alloc | apply Kd.R_drewN | apply Kd.R_drew)); exact zL.out) (Kd.R_base zF) hb); have n4_ := Aside0.mk (Kd.R_lower (Kd.R_new' (Kd.R_new' (Kd.R_new' (Kd.R_new' zF (Kd.R_lt (by (with_reducible repeat (first | apply Kd.R_alloc | apply Kd.R_drewN | apply Kd.R_drew)); exact zD.out))) (Kd.R_lt (by (with_reducible repeat (first | apply Kd.R_alloc | apply Kd.R_drewN | apply Kd.R_drew)); exact zE.out))) (Kd.R_lt (by (with_reducible repeat (first | apply Kd.R_alloc | apply Kd.R_drewN | apply Kd.R_drew)); exact zG.out))) (Kd.R_lt (by (with_reducible repeat (first | apply Kd.R_alloc | apply Kd.R_drewN | apply Kd.R_drew)); exact zL.out))) (zk (by repeat (first | (with_reducible first | exact HB.out | apply zd | apply zb | apply zc | refine zh ?_ zC.out) | exact HB.out)))); have n5_ := Aside0.mk (zo (g := zB) (o := .cells #[.int .i64 a0_0, .int .i64 a0_1, .int .i64 a0_2, .int .i64 a0_3, .int .i64 a0_4] 113 (0, 0)) (by (with_reducible repeat (first | refine zj ?_ _ | refine zl ?_ | refine zi ?_ _)); exact zA.out) hb); have n6_ := Aside0.mk (zm (by repeat (first | (with_reducible first | exact HB.out | apply zd | apply zb | apply zc | refine zh ?_ zC.out) | exact HB.out)) hb); clear zD; clear zE; clear zG; clear zL; clear zA; clear HB; have zD := n0_; have zE := n1_; have zG := n2_; have zL := n3_; have zM := n4_; have zA := n5_; have HB := n6_; clear n0_ n1_ n2_ n3_ n4_ n5_ n6_; (try clear hb); (try clear hb2); (try clear hk); (try clear hi); (try clear zF); obtain ⟨Ao33, co33, eo33⟩ := Kd.R_slice zM.out; subst eo33) | ((with_reducible refine gate_builtin (b := .append) (xs := #[.tmp 26, .tmp 29]) rfl ?_); at_builtin; refine Kd.R_append_rows (Kd.int .u8) (w0 := w) w.heap.size rfl (.tmp 26) (.tmp 29) 22 5 (.int .u8 0) 1 rfl Tryd.underlying22 info5 rfl (by decide) (by omega) v236 y235 t238 _ _ _ (fun k_ => some k_ ≠ (.slice Ao21 y220.length co21 : Value).ownBlock ∧ some k_ ≠ (.slice Ao25 t226.length co25 : Value).ownBlock ∧ some k_ ≠ (.slice Ao29 t232.length co29 : Value).ownBlock ∧ some k_ ≠ (.slice Ao33 t238.length co33 : Value).ownBlock) (fun _ => False) rfl rfl ?aO ?aR (fun _ _ h => h) (fun _ h => h.elim) ?aF ?aB ?aS ?aL ?_; (case aR => repeat (first | exact (Kd.R_reads' zM.out).2.2 | (with_reducible refine Kd.C_alloc ?_ _) | (with_reducible refine Kd.C_drewN ?_ _) | (with_reducible refine Kd.C_drew ?_))); (case aB => exact (by repeat (first | (with_reducible first | exact HB.out | apply zd | apply zb | apply zc | refine zh ?_ zC.out) | exact HB.out))); (case aF => exact (fun k_ hk => ⟨Kd.fresh' (Kd.R_lt (by (with_reducible repeat (first | apply Kd.R_alloc | apply Kd.R_drewN | apply Kd.R_drew)); exact zD.out)) k_ hk, Kd.fresh' (Kd.R_lt (by (with_reducible repeat (first | apply Kd.R_alloc | apply Kd.R_drewN | apply Kd.R_drew)); exact zE.out)) k_ hk, Kd.fresh' (Kd.R_lt (by (with_reducible repeat (first | apply Kd.R_alloc | apply Kd.R_drewN | apply Kd.R_drew)); exact zG.out)) k_ hk, Kd.fresh' (Kd.R_lt (by (with_reducible repeat (first | apply Kd.R_alloc | apply Kd.R_drewN | apply Kd.R_drew)); exact zM.out)) k_ hk⟩)); (case aO => exact (by (with_reducible repeat (first | apply Kd.R_alloc | apply Kd.R_drewN | apply Kd.R_drew)); exact Kd.R_mono zL.out (fun _ hk => ⟨hk.1.1, ⟨hk.1.2.1, ⟨hk.1.2.2, hk.2⟩⟩⟩))); (case aS => exact (zk (by repeat (first | (with_reducible first | exact HB.out | apply zd | apply zb | apply zc | refine zh ?_ zC.out) | exact HB.out)))); (case aL => have := LMc11.out; omega); intro v242 w32 ho hb hg hat; rw [← Ny241.out] at ho; have n0_ := Aside0.mk (zz (g := zB) (o := .cells #[.int .i64 a0_0, .int .i64 a0_1, .int .i64 a0_2, .int .i64 a0_3, .int .i64 a0_4] 113 (0, 0)) (by (with_reducible repeat (first | refine zj ?_ _ | refine zl ?_ | refine zi ?_ _)); exact zA.out) hg (Kd.R_ne zL.out zA.out (by decide))); have n1_ := Aside0.mk (Kd.R_after (ok := (fun k_ => some k_ ≠ (.slice Ao25 t226.length co25 : Value).ownBlock ∧ some k_ ≠ (.slice Ao29 t232.length co29 : Value).ownBlock ∧ some k_ ≠ (.slice Ao33 t238.length co33 : Value).ownBlock)) (by (with_reducible repeat (first | apply Kd.R_alloc | apply Kd.R_drewN | apply Kd.R_drew)); exact Kd.R_mono zD.out (fun _ hk => ⟨⟨hk.1.1.1, ⟨hk.1.1.2, hk.2⟩⟩, hk.1.2⟩)) hg hat); have n2_ := Aside0.mk (Kd.R_after (ok := (fun k_ => some k_ ≠ (.slice Ao21 y220.length co21 : Value).ownBlock ∧ some k_ ≠ (.slice Ao29 t232.length co29 : Value).ownBlock ∧ some k_ ≠ (.slice Ao33 t238.length co33 : Value).ownBlock)) (by (with_reducible repeat (first | apply Kd.R_alloc | apply Kd.R_drewN | apply Kd.R_drew)); exact Kd.R_mono zE.out (fun _ hk => ⟨⟨hk.1.1.1, ⟨hk.1.1.2, hk.2⟩⟩, hk.1.2⟩)) hg hat); have n3_ := Aside0.mk (Kd.R_after (ok := (fun k_ => some k_ ≠ (.slice Ao21 y220.length co21 : Value).ownBlock ∧ some k_ ≠ (.slice Ao25 t226.length co25 : Value).ownBlock ∧ some k_ ≠ (.slice Ao33 t238.length co33 : Value).ownBlock)) (by (with_reducible repeat (first | apply Kd.R_alloc | apply Kd.R_drewN | apply Kd.R_drew)); exact Kd.R_mono zG.out (fun _ hk => ⟨⟨hk.1.1.1, ⟨hk.1.1.2, hk.2⟩⟩, hk.1.2⟩)) hg hat); have n4_ := Aside0.mk (Kd.R_after (ok := (fun k_ => some k_ ≠ (.slice Ao21 y220.length co21 : Value).ownBlock ∧ some k_ ≠ (.slice Ao25 t226.length co25 : Value).ownBlock ∧ some k_ ≠ (.slice Ao29 t232.length co29 : Value).ownBlock)) (by (with_reducible repeat (first | apply Kd.R_alloc | apply Kd.R_drewN | apply Kd.R_drew)); exact Kd.R_mono zM.out (fun _ hk => ⟨⟨hk.1.1.1.2, ⟨hk.1.1.2, hk.1.2⟩⟩, hk.2⟩)) hg hat); have n5_ := Aside0.mk (hb); have n6_ := Aside0.mk (ho); clear zA; clear zD; clear zE; clear zG; clear zM; clear HB; clear zL; have zA := n0_; have zD := n1_; have zE := n2_; have zG := n3_; have zM := n4_; have HB := n5_; have zHb := n6_; clear n0_ n1_ n2_ n3_ n4_ n5_ n6_; clear ho hb hg hat))
      go_loopg [3] k (fun kq v3 w' => ∃ (x3_1 : List Int), Aside0 (spec_EncodeSuper.l0 kq x3_1 a0_0 a0_1 a0_2 a0_3 a0_4 = some r) ∧ Aside0 (kq ≤ k) ∧ Aside0 (Kd.R (Kd.int .u8) 5 w' w.heap.size (fun _ => True) v3 x3_1) ∧ Aside0 (w'.heap[zB]? = some (.cells #[.int .i64 a0_0, .int .i64 a0_1, .int .i64 a0_2, .int .i64 a0_3, .int .i64 a0_4] 113 (0, 0))) ∧ Aside0 (Below w.heap.size w w'))
      case atStart => exact ⟨(y241), H', ⟨Nat.le_refl _⟩, ⟨by (with_reducible repeat (first | apply Kd.R_alloc | apply Kd.R_drewN | apply Kd.R_drew)); exact Kd.R_mono zHb.out (fun _ hk => trivial)⟩, ⟨by (with_reducible repeat (first | refine zj ?_ _ | refine zl ?_ | refine zi ?_ _)); exact zA.out⟩, ⟨by repeat (first | (with_reducible first | exact HB.out | apply zd | apply zb | apply zc | refine zh ?_ zC.out) | exact HB.out)⟩⟩
      case round =>
       clear H'
       try clear c1
       try clear p2
       try clear c3
       try clear c5
       try clear c7
       try clear c9
       try clear c11
       try clear c14
       try clear zT
       try clear zU
       try clear zV
       try clear zW
       try clear zX
       try clear zdb
       try clear zeb
       try clear zfb
       try clear zgb
       try clear zhb
       try clear znb
       try clear zob
       try clear zpb
       try clear zqb
       try clear zrb
       try clear zxb
       try clear zyb
       try clear zzb
       try clear zAb
       try clear zBb
       try clear zY
       try clear zZ
       try clear zab
       try clear zbb
       try clear zcb
       try clear zib
       try clear zjb
       try clear zkb
       try clear zlb
       try clear zmb
       try clear zsb
       try clear ztb
       try clear zub
       try clear zvb
       try clear zwb
       try clear zCb
       try clear zDb
       try clear zEb
       try clear zFb
       try clear zGb
       obtain ⟨x3_1, HA, HK1, zH, zA, HB⟩ := hrel
       cases gk with
       | zero => exact absurd HA.out (by simp [spec_EncodeSuper.l0])
       | succ k1 =>
        have H := HA.out
        clear HA
        simp only [spec_EncodeSuper.l0] at H
        by_cases c34 : (x3_1.length : Int) < 56
        ·rw [if_pos c34] at H
         have c34b0 : decide ((x3_1.length : Int) < 56) = true := decide_eq_true c34
         have c34b1 : decide (x3_1.length < 56) = true := decide_eq_true (by omega)
         clear c34
         obtain ⟨y244, hy244⟩ : ∃ y_ : List Int, y_ = (([0] : List Int)) := ⟨_, rfl⟩
         replace H : (if x3_1.length + y244.length < 140737488355328 then (spec_EncodeSuper.l0 k1 (x3_1 ++ y244) a0_0 a0_1 a0_2 a0_3 a0_4) else (none)) = some r := by first | (rw [hy244]; with_reducible exact H) | (have H2_ := (Option.bind_some _ _).symm.trans H; rw [hy244]; with_reducible exact H2_) | (have H2_ := (Option.bind_some _ _).symm.trans H; with_reducible exact H2_) | with_reducible exact H | (rw [hy244]; exact H) | exact H
         have Ny244 := Aside0.mk hy244
         clear hy244
         by_cases c35 : x3_1.length + y244.length < 140737488355328
         ·rw [if_pos c35] at H
          have LMc35 := Aside0.mk c35
          clear c35
          obtain ⟨y247, hy247⟩ : ∃ y_ : List Int, y_ = (x3_1 ++ y244) := ⟨_, rfl⟩
          replace H : (spec_EncodeSuper.l0 k1 y247 a0_0 a0_1 a0_2 a0_3 a0_4) = some r := by first | (rw [hy247]; with_reducible exact H) | (have H2_ := (Option.bind_some _ _).symm.trans H; rw [hy247]; with_reducible exact H2_) | (have H2_ := (Option.bind_some _ _).symm.trans H; with_reducible exact H2_) | with_reducible exact H | (rw [hy247]; exact H) | exact H
          have Ny247 := Aside0.mk hy247
          clear hy247
          have H' := Aside0.mk H
          clear H
          obtain ⟨Ao36, co36, eo36⟩ := Kd.R_slice zH.out
          subst eo36
          go_wp2_with (first | ((with_reducible refine zr (N := 35) rfl ?_); refine Kd.R_lit (Kd.int .u8) _ 5 ?hg (N := 35) ?hd (xs := ([0] : List Int)) (inner := [.int .u8 0]) (ok := fun _ => True) (okp := fun _ => True) ?hr ?hp (fun _ hk => hk) trivial (Below.refl _ _) (Nat.le_refl _) (by simp) ?_; (case hd => rfl); (case hg => rfl); (case hr => first | (go_simp; done) | (go_simp; rfl)); (case hp => exact (Reps.one (show Kd.M (Kd.int .u8) _ _ _ 0 [.int .u8 0] from rfl) (Reps.none _ _))); intro v245 w37 zQ hb hg_ hnew_; clear hg_ hnew_; (first | rw [← Ny244.out] at zQ | (simp only [Int.reduceToNat] at zQ; rw [← Ny244.out] at zQ)); have n0_ := Aside0.mk (Kd.R_elder' (by (with_reducible repeat (first | apply Kd.R_alloc | apply Kd.R_drewN | apply Kd.R_drew)); exact zH.out) (Kd.R_base zQ) hb); have n1_ := Aside0.mk (Kd.R_lower (Kd.R_new' zQ (Kd.R_lt (by (with_reducible repeat (first | apply Kd.R_alloc | apply Kd.R_drewN | apply Kd.R_drew)); exact zH.out))) (zk (by repeat (first | (with_reducible first | exact HB.out | apply zd | apply zb | apply zc | refine zh ?_ zC.out) | exact HB.out)))); have n2_ := Aside0.mk (zo (g := zB) (o := .cells #[.int .i64 a0_0, .int .i64 a0_1, .int .i64 a0_2, .int .i64 a0_3, .int .i64 a0_4] 113 (0, 0)) (by (with_reducible repeat (first | refine zj ?_ _ | refine zl ?_ | refine zi ?_ _)); exact zA.out) hb); have n3_ := Aside0.mk (zm (by repeat (first | (with_reducible first | exact HB.out | apply zd | apply zb | apply zc | refine zh ?_ zC.out) | exact HB.out)) hb); clear zH; clear zA; clear HB; have zH := n0_; have zN := n1_; have zA := n2_; have HB := n3_; clear n0_ n1_ n2_ n3_; clear hb zQ; obtain ⟨Ao40, co40, eo40⟩ := Kd.R_slice zN.out; subst eo40) | ((with_reducible refine gate_builtin (b := .append) (xs := #[.tmp 34, .tmp 35]) rfl ?_); at_builtin; refine Kd.R_append_rows (Kd.int .u8) (w0 := w) w.heap.size rfl (.tmp 34) (.tmp 35) 22 5 (.int .u8 0) 1 rfl Tryd.underlying22 info5 rfl (by decide) (by omega) (.slice Ao36 x3_1.length co36) x3_1 y244 _ _ _ (fun k_ => some k_ ≠ (.slice Ao40 y244.length co40 : Value).ownBlock) (fun _ => False) rfl rfl ?aO ?aR (fun _ _ h => h) (fun _ h => h.elim) ?aF ?aB ?aS ?aL ?_; (case aR => repeat (first | exact (Kd.R_reads' zN.out).2.2 | (with_reducible refine Kd.C_alloc ?_ _) | (with_reducible refine Kd.C_drewN ?_ _) | (with_reducible refine Kd.C_drew ?_))); (case aB => exact (by repeat (first | (with_reducible first | exact HB.out | apply zd | apply zb | apply zc | refine zh ?_ zC.out) | exact HB.out))); (case aF => exact (fun k_ hk => Kd.fresh' (Kd.R_lt (by (with_reducible repeat (first | apply Kd.R_alloc | apply Kd.R_drewN | apply Kd.R_drew)); exact zN.out)) k_ hk)); (case aO => exact (by (with_reducible repeat (first | apply Kd.R_alloc | apply Kd.R_drewN | apply Kd.R_drew)); exact Kd.R_mono zH.out (fun _ hk => hk.2))); (case aS => exact (zk (by repeat (first | (with_reducible first | exact HB.out | apply zd | apply zb | apply zc | refine zh ?_ zC.out) | exact HB.out)))); (case aL => have := LMc35.out; omega); intro v248 w39 ho hb hg hat; rw [← Ny247.out] at ho; have n0_ := Aside0.mk (zz (g := zB) (o := .cells #[.int .i64 a0_0, .int .i64 a0_1, .int .i64 a0_2, .int .i64 a0_3, .int .i64 a0_4] 113 (0, 0)) (by (with_reducible repeat (first | refine zj ?_ _ | refine zl ?_ | refine zi ?_ _)); exact zA.out) hg (Kd.R_ne zH.out zA.out (by decide))); have n1_ := Aside0.mk (Kd.R_after (ok := (fun _ => True)) (by (with_reducible repeat (first | apply Kd.R_alloc | apply Kd.R_drewN | apply Kd.R_drew)); exact zN.out) hg hat); have n2_ := Aside0.mk (hb); have n3_ := Aside0.mk (ho); clear zA; clear zN; clear HB; clear zH; have zA := n0_; have zN := n1_; have HB := n2_; have zIb := n3_; clear n0_ n1_ n2_ n3_; clear ho hb hg hat))
          go_roundg k1
          case measure => have := HK1.out; omega
          case rel => exact ⟨(y247), H', ⟨by have := HK1.out; omega⟩, ⟨by (with_reducible repeat (first | apply Kd.R_alloc | apply Kd.R_drewN | apply Kd.R_drew)); exact Kd.R_mono zIb.out (fun _ hk => trivial)⟩, ⟨by (with_reducible repeat (first | refine zj ?_ _ | refine zl ?_ | refine zi ?_ _)); exact zA.out⟩, ⟨by repeat (first | (with_reducible first | exact HB.out | apply zd | apply zb | apply zc | refine zh ?_ zC.out) | exact HB.out)⟩⟩
         ·rw [if_neg c35] at H
          exact absurd H (by simp)
        ·rw [if_neg c34] at H
         have c34b0 : decide ((x3_1.length : Int) < 56) = false := decide_eq_false c34
         have c34b1 : decide (x3_1.length < 56) = false := decide_eq_false (by omega)
         clear c34
         replace H := Option.bind_eq_some_iff.mp H
         obtain ⟨t250, A410, H⟩ := H
         replace H : (if x3_1.length + t250.length < 140737488355328 then (some (x3_1 ++ t250)) else (none)) = some r := H
         have A41 := Aside0.mk A410
         clear A410
         by_cases c42 : x3_1.length + t250.length < 140737488355328
         ·rw [if_pos c42] at H
          have LMc42 := Aside0.mk c42
          clear c42
          obtain ⟨y253, hy253⟩ : ∃ y_ : List Int, y_ = (x3_1 ++ t250) := ⟨_, rfl⟩
          replace H : (some y253) = some r := by first | (rw [hy253]; with_reducible exact H) | (have H2_ := (Option.bind_some _ _).symm.trans H; rw [hy253]; with_reducible exact H2_) | (have H2_ := (Option.bind_some _ _).symm.trans H; with_reducible exact H2_) | with_reducible exact H | (rw [hy253]; exact H) | exact H
          have Ny253 := Aside0.mk hy253
          clear hy253
          obtain rfl := Option.some.inj H
          obtain ⟨Ao43, co43, eo43⟩ := Kd.R_slice zH.out
          subst eo43
          have zLb : wr.cell? ⟨zB, 0, none⟩ = some (.int .i64 a0_0) := (ze zA.out 0).trans rfl
          have zMb : wr.cell? ⟨zB, 1, none⟩ = some (.int .i64 a0_1) := (ze zA.out 1).trans rfl
          have zNb : wr.cell? ⟨zB, 2, none⟩ = some (.int .i64 a0_2) := (ze zA.out 2).trans rfl
          have zOb : wr.cell? ⟨zB, 3, none⟩ = some (.int .i64 a0_3) := (ze zA.out 3).trans rfl
          have zPb : wr.cell? ⟨zB, 4, none⟩ = some (.int .i64 a0_4) := (ze zA.out 4).trans rfl
          have zQb := zg zA.out 0
          have zRb := zg zA.out 1
          have zSb := zg zA.out 2
          have zTb := zg zA.out 3
          have zUb := zg zA.out 4
          go_wp2_with (first | ((with_reducible refine zn (f := 141) rfl ?_); refine zx (some 40) rfl rfl Tryd.func141 (by kernel_rfl) rfl #[.int .i64 a0_0, .int .i64 8] rfl (by (try simp only [List.map_toArray, List.map_cons, List.map_nil]); first | done | rfl | (simp only [List.length_drop, List.length_take]; rfl)) ?_; (with_reducible refine (spec_l4Big.calls k1 a0_0 8 t250 _ A41.out).mono ?_); rintro e w45 ⟨v251, rfl, zF, hb⟩; refine ⟨_, rfl, ?_⟩; have n0_ := Aside0.mk (Kd.R_elder' (by (with_reducible repeat (first | apply Kd.R_alloc | apply Kd.R_drewN | apply Kd.R_drew)); exact zH.out) (Kd.R_base zF) hb); have n1_ := Aside0.mk (Kd.R_lower (Kd.R_new' zF (Kd.R_lt (by (with_reducible repeat (first | apply Kd.R_alloc | apply Kd.R_drewN | apply Kd.R_drew)); exact zH.out))) (zk (by repeat (first | (with_reducible first | exact HB.out | apply zd | apply zb | apply zc | refine zh ?_ zC.out) | exact HB.out)))); have n2_ := Aside0.mk (zo (g := zB) (o := .cells #[.int .i64 a0_0, .int .i64 a0_1, .int .i64 a0_2, .int .i64 a0_3, .int .i64 a0_4] 113 (0, 0)) (by (with_reducible repeat (first | refine zj ?_ _ | refine zl ?_ | refine zi ?_ _)); exact zA.out) hb); have n3_ := Aside0.mk (zm (by repeat (first | (with_reducible first | exact HB.out | apply zd | apply zb | apply zc | refine zh ?_ zC.out) | exact HB.out)) hb); clear zH; clear zA; clear HB; have zH := n0_; have zO := n1_; have zA := n2_; have HB := n3_; clear n0_ n1_ n2_ n3_; (try clear hb); (try clear hb2); (try clear hk); (try clear hi); (try clear zF); obtain ⟨Ao47, co47, eo47⟩ := Kd.R_slice zO.out; subst eo47) | ((with_reducible refine gate_builtin (b := .append) (xs := #[.tmp 37, .tmp 40]) rfl ?_); at_builtin; refine Kd.R_append_rows (Kd.int .u8) (w0 := w) w.heap.size rfl (.tmp 37) (.tmp 40) 22 5 (.int .u8 0) 1 rfl Tryd.underlying22 info5 rfl (by decide) (by omega) (.slice Ao43 x3_1.length co43) x3_1 t250 _ _ _ (fun k_ => some k_ ≠ (.slice Ao47 t250.length co47 : Value).ownBlock) (fun _ => False) rfl rfl ?aO ?aR (fun _ _ h => h) (fun _ h => h.elim) ?aF ?aB ?aS ?aL ?_; (case aR => repeat (first | exact (Kd.R_reads' zO.out).2.2 | (with_reducible refine Kd.C_alloc ?_ _) | (with_reducible refine Kd.C_drewN ?_ _) | (with_reducible refine Kd.C_drew ?_))); (case aB => exact (by repeat (first | (with_reducible first | exact HB.out | apply zd | apply zb | apply zc | refine zh ?_ zC.out) | exact HB.out))); (case aF => exact (fun k_ hk => Kd.fresh' (Kd.R_lt (by (with_reducible repeat (first | apply Kd.R_alloc | apply Kd.R_drewN | apply Kd.R_drew)); exact zO.out)) k_ hk)); (case aO => exact (by (with_reducible repeat (first | apply Kd.R_alloc | apply Kd.R_drewN | apply Kd.R_drew)); exact Kd.R_mono zH.out (fun _ hk => hk.2))); (case aS => exact (zk (by repeat (first | (with_reducible first | exact HB.out | apply zd | apply zb | apply zc | refine zh ?_ zC.out) | exact HB.out)))); (case aL => have := LMc42.out; omega); intro v254 w46 ho hb hg hat; rw [← Ny253.out] at ho; have n0_ := Aside0.mk (zz (g := zB) (o := .cells #[.int .i64 a0_0, .int .i64 a0_1, .int .i64 a0_2, .int .i64 a0_3, .int .i64 a0_4] 113 (0, 0)) (by (with_reducible repeat (first | refine zj ?_ _ | refine zl ?_ | refine zi ?_ _)); exact zA.out) hg (Kd.R_ne zH.out zA.out (by decide))); have n1_ := Aside0.mk (Kd.R_after (ok := (fun _ => True)) (by (with_reducible repeat (first | apply Kd.R_alloc | apply Kd.R_drewN | apply Kd.R_drew)); exact zO.out) hg hat); have n2_ := Aside0.mk (hb); have n3_ := Aside0.mk (ho); clear zA; clear zO; clear HB; clear zH; have zA := n0_; have zO := n1_; have HB := n2_; have zJb := n3_; clear n0_ n1_ n2_ n3_; clear ho hb hg hat))
          go_ret
          exact ⟨_, by first | rfl | (simp [errW_none, errW_some] <;> rfl) | (simp [*, errW_none, errW_some] <;> rfl), by (with_reducible repeat (first | apply Kd.R_alloc | apply Kd.R_drewN | apply Kd.R_drew)); exact Kd.R_mono zJb.out (fun _ hk => trivial), by repeat (first | (with_reducible first | exact HB.out | apply zd | apply zb | apply zc | refine zh ?_ zC.out) | exact HB.out)⟩
         ·rw [if_neg c42] at H
          exact absurd H (by simp)
     ·rw [if_neg c11] at H
      exact absurd H (by simp)
    ·rw [if_neg c9] at H
     exact absurd H (by simp)
   ·rw [if_neg c7] at H
    exact absurd H (by simp)
  ·rw [if_neg c5] at H
   exact absurd H (by simp)
 ·replace c3 := Bool.eq_false_iff.mpr c3
  subst c3
  have H1 : (some (([] : List Int))) = some r := by rw [if_neg (show ¬ (false = true) by decide)] at H; exact H
  clear H
  have H := H1
  clear H1
  obtain ⟨y214, hy214⟩ : ∃ y_ : List Int, y_ = (([] : List Int)) := ⟨_, rfl⟩
  replace H : (some y214) = some r := by first | (rw [hy214]; with_reducible exact H) | (have H2_ := (Option.bind_some _ _).symm.trans H; rw [hy214]; with_reducible exact H2_) | (have H2_ := (Option.bind_some _ _).symm.trans H; with_reducible exact H2_) | with_reducible exact H | (rw [hy214]; exact H) | exact H
  have Ny214 := Aside0.mk hy214
  clear hy214
  obtain rfl := Option.some.inj H
  go_enter Tryd.func76, Tryd.ntmps76
  go_wp2_with (first | ((with_reducible refine zr (N := 1) rfl ?_); refine zu ?hg (N := 1) ?hd (cs := #[.int .i64 a0_0, .int .i64 a0_1, .int .i64 a0_2, .int .i64 a0_3, .int .i64 a0_4]) (t := 113) ?hr ?_; (case hd => rfl); (case hg => rfl); (case hr => first | (go_simp; done) | (go_simp; rfl)); intro zB hg w48 hbox hb; have n0_ := Aside0.mk (zm (by repeat (first | (with_reducible first | exact HB.out | apply zd | apply zb | apply zc) | exact HB.out)) hb); have n1_ := Aside0.mk (hbox); have n2_ := Aside0.mk ((by rw [hg]; exact (zk (by repeat (first | (with_reducible first | exact HB.out | apply zd | apply zb | apply zc) | exact HB.out))) : w.heap.size ≤ zB)); have n3_ := Aside0.mk ((by rw [hg]; exact (zk (by repeat (first | (with_reducible first | exact HB.out | apply zd | apply zb | apply zc) | exact HB.out))) : w.heap.size ≤ zB)); clear HB; have HB := n0_; have zA := n1_; have GW212 := n2_; have zC := n3_; clear n0_ n1_ n2_ n3_; clear hb hbox hg; have zVb : w48.cell? ⟨zB, 0, none⟩ = some (.int .i64 a0_0) := (ze zA.out 0).trans rfl; have zWb : w48.cell? ⟨zB, 1, none⟩ = some (.int .i64 a0_1) := (ze zA.out 1).trans rfl; have zXb : w48.cell? ⟨zB, 2, none⟩ = some (.int .i64 a0_2) := (ze zA.out 2).trans rfl; have zYb : w48.cell? ⟨zB, 3, none⟩ = some (.int .i64 a0_3) := (ze zA.out 3).trans rfl; have zZb : w48.cell? ⟨zB, 4, none⟩ = some (.int .i64 a0_4) := (ze zA.out 4).trans rfl; have zac := zg zA.out 0; have zbc := zg zA.out 1; have zcc := zg zA.out 2; have zdc := zg zA.out 3; have zec := zg zA.out 4) | ((with_reducible refine zn (f := 140) rfl ?_); refine zx (some 5) rfl rfl Tryd.func140 (by kernel_rfl) rfl #[.agg #[.int .i64 a0_0, .int .i64 a0_1, .int .i64 a0_2, .int .i64 a0_3, .int .i64 a0_4]] rfl (by (try simp only [List.map_toArray, List.map_cons, List.map_nil]); first | done | rfl | (simp only [List.length_drop, List.length_take]; rfl)) ?_; (with_reducible refine (spec_l4ValidSuper.calls a0_0 a0_1 a0_2 a0_3 a0_4 false _ A2.out).mono ?_); rintro e w50 ⟨rfl, hb⟩; refine ⟨_, rfl, ?_⟩; have n0_ := Aside0.mk (zo (g := zB) (o := .cells #[.int .i64 a0_0, .int .i64 a0_1, .int .i64 a0_2, .int .i64 a0_3, .int .i64 a0_4] 113 (0, 0)) (by (with_reducible repeat (first | refine zj ?_ _ | refine zl ?_ | refine zi ?_ _)); exact zA.out) hb); have n1_ := Aside0.mk (zm (by repeat (first | (with_reducible first | exact HB.out | apply zd | apply zb | apply zc | refine zh ?_ zC.out) | exact HB.out)) hb); clear zA; clear HB; have zA := n0_; have HB := n1_; clear n0_ n1_; (try clear hb); (try clear hb2); (try clear hk); (try clear hi)) | ((with_reducible refine zr (N := 7) rfl ?_); refine Kd.R_lit (Kd.int .u8) _ 5 ?hg (N := 7) ?hd (xs := ([] : List Int)) (inner := []) (ok := fun _ => True) (okp := fun _ => True) ?hr ?hp (fun _ hk => hk) trivial (Below.refl _ _) (Nat.le_refl _) (by simp) ?_; (case hd => rfl); (case hg => rfl); (case hr => first | (go_simp; done) | (go_simp; rfl)); (case hp => exact (Reps.none _ _)); intro v215 w51 zS hb hg_ hnew_; clear hg_ hnew_; (first | rw [← Ny214.out] at zS | (simp only [Int.reduceToNat] at zS; rw [← Ny214.out] at zS)); have n0_ := Aside0.mk (Kd.R_lower zS (zk (by repeat (first | (with_reducible first | exact HB.out | apply zd | apply zb | apply zc | refine zh ?_ zC.out) | exact HB.out)))); have n1_ := Aside0.mk (zo (g := zB) (o := .cells #[.int .i64 a0_0, .int .i64 a0_1, .int .i64 a0_2, .int .i64 a0_3, .int .i64 a0_4] 113 (0, 0)) (by (with_reducible repeat (first | refine zj ?_ _ | refine zl ?_ | refine zi ?_ _)); exact zA.out) hb); have n2_ := Aside0.mk (zm (by repeat (first | (with_reducible first | exact HB.out | apply zd | apply zb | apply zc | refine zh ?_ zC.out) | exact HB.out)) hb); clear zA; clear HB; have zKb := n0_; have zA := n1_; have HB := n2_; clear n0_ n1_ n2_; clear hb zS))
  go_ret
  exact ⟨_, by first | rfl | (simp [errW_none, errW_some] <;> rfl) | (simp [*, errW_none, errW_some] <;> rfl), by (with_reducible repeat (first | apply Kd.R_alloc | apply Kd.R_drewN | apply Kd.R_drew)); exact zKb.out, by repeat (first | (with_reducible first | exact HB.out | apply zd | apply zb | apply zc | refine zh ?_ zC.out) | exact HB.out)⟩

def spec_l1Copy.l0 : Nat → List Int → List Int → Int → Option (List Int)
 | 0, _, _, _ => none
 | k + 1, x0, x3, x4 => if x4 < (x0.length : Int) then (if 0 ≤ x4 then (if x3.length < 140737488355328 then (spec_l1Copy.l0 k x0 (x3 ++ [rd x0 x4]) (wrap64 (x4 + 1))) else (none)) else (none)) else (some x3)
def spec_l1Copy.f (k : Nat) (l0 : List Int) : Option (List Int) := spec_l1Copy.l0 k l0 (([] : List Int)) 0
theorem spec_l1Copy.mono_l : ∀ k, (∀ y0 y1 y2, LeO (spec_l1Copy.l0 k y0 y1 y2) (spec_l1Copy.l0 (k + 1) y0 y1 y2))
 | 0 => fun _ _ _ r h => by simp [spec_l1Copy.l0] at h
 | k + 1 => by
  have ih0 := spec_l1Copy.mono_l k
  ·intro y0 y1 y2
   unfold spec_l1Copy.l0
   repeat' first
   | (with_reducible exact ih0 _ _ _)
   | (with_reducible exact LeO.refl _)
   | (with_reducible exact LeO.none _)
   | (with_reducible refine LeO.ite ?_ ?_)
   | (with_reducible refine LeO.bind ?_ (fun _ => ?_))
   | exact ih0 _ _ _
   | exact LeO.none _
   | refine LeO.ite ?_ ?_
   | refine LeO.bind ?_ (fun _ => ?_)
theorem spec_l1Copy.mono : ∀ a0 k, LeO (spec_l1Copy.f k a0) (spec_l1Copy.f (k + 1) a0) := by
 intro a0 k
 have ih0 := spec_l1Copy.mono_l k
 unfold spec_l1Copy.f
 repeat' first
   | (with_reducible exact ih0 _ _ _)
   | (with_reducible exact LeO.refl _)
   | (with_reducible exact LeO.none _)
   | (with_reducible refine LeO.ite ?_ ?_)
   | (with_reducible refine LeO.bind ?_ (fun _ => ?_))
   | exact ih0 _ _ _
   | exact LeO.none _
   | refine LeO.ite ?_ ?_
   | refine LeO.bind ?_ (fun _ => ?_)
set_option maxHeartbeats 8000000 in
set_option maxRecDepth 100000 in
theorem spec_l1Copy.calls (k : Nat) (A0 : Option Addr) (c0 : Nat) (l0 : List Int) (r : List Int) (w : World) (hr0 : Kd.C (Kd.int .u8) w A0 l0.length l0) (hc0 : l0.length ≤ c0) (h : spec_l1Copy.f k l0 = some r) :
  Calls Tryd.prog 142 #[.slice A0 l0.length c0] w fun e w' => ∃ v0_ : Value, e = .returned (v0_) ∧ Kd.R (Kd.int .u8) 5 w' w.heap.size (fun _ => True) v0_ r ∧ Below w.heap.size w w' := by
 have HR0 := Aside0.mk hr0
 have HC0 := Aside0.mk hc0
 clear hr0 hc0
 have HB := Aside0.mk (Below.refl w.heap.size w)
 have H : (spec_l1Copy.l0 k l0 (([] : List Int)) 0) = some r := h
 clear h
 obtain ⟨y256, hy256⟩ : ∃ y_ : List Int, y_ = (([] : List Int)) := ⟨_, rfl⟩
 replace H : (spec_l1Copy.l0 k l0 y256 0) = some r := by first | (rw [hy256]; with_reducible exact H) | (have H2_ := (Option.bind_some _ _).symm.trans H; rw [hy256]; with_reducible exact H2_) | (have H2_ := (Option.bind_some _ _).symm.trans H; with_reducible exact H2_) | with_reducible exact H | (rw [hy256]; exact H) | exact H
 have Ny256 := Aside0.mk hy256
 clear hy256
 have H' := Aside0.mk H
 clear H
 go_enter Tryd.func142, Tryd.ntmps142
 go_wp2_with (first | ((with_reducible refine zr (N := 5) rfl ?_); refine Kd.R_lit (Kd.int .u8) _ 5 ?hg (N := 5) ?hd (xs := ([] : List Int)) (inner := []) (ok := fun _ => True) (okp := fun _ => True) ?hr ?hp (fun _ hk => hk) trivial (Below.refl _ _) (Nat.le_refl _) (by simp) ?_; (case hd => rfl); (case hg => rfl); (case hr => first | (go_simp; done) | (go_simp; rfl)); (case hp => exact (Reps.none _ _)); intro v257 w2 zA hb hg_ hnew_; clear hg_ hnew_; (first | rw [← Ny256.out] at zA | (simp only [Int.reduceToNat] at zA; rw [← Ny256.out] at zA)); have n0_ := Aside0.mk (Kd.R_lower zA (zk (by repeat (first | (with_reducible first | exact HB.out | apply zd | apply zb | apply zc) | exact HB.out)))); have n1_ := Aside0.mk (zm (by repeat (first | (with_reducible first | exact HB.out | apply zd | apply zb | apply zc) | exact HB.out)) hb); clear HB; have zC := n0_; have HB := n1_; clear n0_ n1_; clear hb zA))
 go_loopg [3, 4] k (fun kq v3 v4 w' => ∃ (x3_1 : List Int) (x4_1 : Int), v4 = .int .i64 x4_1 ∧ Aside0 (spec_l1Copy.l0 kq l0 x3_1 x4_1 = some r) ∧ Aside0 (kq ≤ k) ∧ Aside0 (Kd.R (Kd.int .u8) 5 w' w.heap.size (fun _ => True) v3 x3_1) ∧ Aside0 (Below w.heap.size w w'))
 case atStart => exact ⟨(y256), (0), (by first | rfl | (simp; done) | (simp [*]; done)), H', ⟨Nat.le_refl _⟩, ⟨by (with_reducible repeat (first | apply Kd.R_alloc | apply Kd.R_drewN | apply Kd.R_drew)); exact zC.out⟩, ⟨by repeat (first | (with_reducible first | exact HB.out | apply zd | apply zb | apply zc) | exact HB.out)⟩⟩
 case round =>
  clear H'
  try clear c1
  try clear p2
  obtain ⟨x3_1, x4_1, rfl, HA, HK1, zB, HB⟩ := hrel
  cases gk with
  | zero => exact absurd HA.out (by simp [spec_l1Copy.l0])
  | succ k1 =>
   have H := HA.out
   clear HA
   simp only [spec_l1Copy.l0] at H
   by_cases c4 : x4_1 < (l0.length : Int)
   ·rw [if_pos c4] at H
    have c4b0 : decide (x4_1 < (l0.length : Int)) = true := decide_eq_true c4
    clear c4
    by_cases c5 : 0 ≤ x4_1
    ·rw [if_pos c5] at H
     have c5b0 : decide (0 ≤ x4_1) = true := decide_eq_true c5
     clear c5
     by_cases c6 : x3_1.length < 140737488355328
     ·rw [if_pos c6] at H
      have LMc6 := Aside0.mk c6
      clear c6
      obtain ⟨y260, hy260⟩ : ∃ y_ : List Int, y_ = (x3_1 ++ [rd l0 x4_1]) := ⟨_, rfl⟩
      replace H : (spec_l1Copy.l0 k1 l0 y260 (wrap64 (x4_1 + 1))) = some r := by first | (rw [hy260]; with_reducible exact H) | (have H2_ := (Option.bind_some _ _).symm.trans H; rw [hy260]; with_reducible exact H2_) | (have H2_ := (Option.bind_some _ _).symm.trans H; with_reducible exact H2_) | with_reducible exact H | (rw [hy260]; exact H) | exact H
      have Ny260 := Aside0.mk hy260
      clear hy260
      have H' := Aside0.mk H
      clear H
      have p259 : 0 ≤ (x4_1 : Int) := of_decide_eq_true (by first | (with_reducible assumption) | assumption)
      have q259 : x4_1 < (l0.length : Int) := of_decide_eq_true (by first | (with_reducible assumption) | assumption)
      obtain ⟨ad259, e259, hx259_0⟩ := Kd.at_int HR0.out x4_1 p259 q259
      cases e259
      replace hx259_0 := zf HB.out hx259_0
      replace p259 := eq_true p259
      replace q259 := eq_true q259
      go_wp2_with (first | ((with_reducible refine gate_builtin (b := .append) (xs := #[.tmp 12, .tmp 17]) rfl ?_); at_builtin; refine Kd.R_append (Kd.int .u8) (w0 := w) w.heap.size rfl (.tmp 12) (.tmp 17) 22 5 (.int .u8 0) 1 rfl Tryd.underlying22 info5 rfl (by decide) (by omega) u3 x3_1 (rd l0 x4_1) [.int .u8 (rd l0 x4_1)] (fun _ => True) (fun _ => False) rfl rfl ?aP (fun _ hk => hk.elim) ?aF ?aO ?aB ?aS ?aL ?_; (case aP => exact rfl); (case aB => exact (by repeat (first | (with_reducible first | exact HB.out | apply zd | apply zb | apply zc) | exact HB.out))); (case aF => exact (fun _ _ => trivial)); (case aO => exact (by (with_reducible repeat (first | apply Kd.R_alloc | apply Kd.R_drewN | apply Kd.R_drew)); exact zB.out)); (case aS => exact (zk (by repeat (first | (with_reducible first | exact HB.out | apply zd | apply zb | apply zc) | exact HB.out)))); (case aL => have := LMc6.out; omega); intro v261 w7 ho hb hg hat; rw [← Ny260.out] at ho; have n0_ := Aside0.mk (hb); have n1_ := Aside0.mk (ho); clear HB; clear zB; have HB := n0_; have zD := n1_; clear n0_ n1_; clear ho hb hg hat))
      go_roundg k1
      case measure => have := HK1.out; omega
      case rel => exact ⟨(y260), (wrap64 (x4_1 + 1)), (by first | rfl | (simp; done) | (simp [*]; done)), H', ⟨by have := HK1.out; omega⟩, ⟨by (with_reducible repeat (first | apply Kd.R_alloc | apply Kd.R_drewN | apply Kd.R_drew)); exact zD.out⟩, ⟨by repeat (first | (with_reducible first | exact HB.out | apply zd | apply zb | apply zc) | exact HB.out)⟩⟩
     ·rw [if_neg c6] at H
      exact absurd H (by simp)
    ·rw [if_neg c5] at H
     exact absurd H (by simp)
   ·rw [if_neg c4] at H
    have c4b0 : decide (x4_1 < (l0.length : Int)) = false := decide_eq_false c4
    clear c4
    obtain rfl := Option.some.inj H
    go_wp2
    go_ret
    exact ⟨_, by first | rfl | (simp [errW_none, errW_some] <;> rfl) | (simp [*, errW_none, errW_some] <;> rfl), by (with_reducible repeat (first | apply Kd.R_alloc | apply Kd.R_drewN | apply Kd.R_drew)); exact zB.out, by repeat (first | (with_reducible first | exact HB.out | apply zd | apply zb | apply zc) | exact HB.out)⟩

def spec_l5Pad.l0 : Nat → Int → List Int → Option (List Int)
 | 0, _, _ => none
 | k + 1, x1, x5 => if (x5.length : Int) < x1 then (if x5.length < 140737488355328 then (spec_l5Pad.l0 k x1 (x5 ++ [0])) else (none)) else (some x5)
def spec_l5Pad.f (k : Nat) (l0 : List Int) (a1 : Int) : Option (List Int) := (spec_l1Copy.f k l0).bind fun t263 => (spec_l5Pad.l0 k a1 t263)
theorem spec_l5Pad.mono_l : ∀ k, (∀ y0 y1, LeO (spec_l5Pad.l0 k y0 y1) (spec_l5Pad.l0 (k + 1) y0 y1))
 | 0 => fun _ _ r h => by simp [spec_l5Pad.l0] at h
 | k + 1 => by
  have ih0 := spec_l5Pad.mono_l k
  ·intro y0 y1
   unfold spec_l5Pad.l0
   repeat' first
   | (with_reducible exact ih0 _ _)
   | (with_reducible exact spec_l1Copy.mono _ _)
   | (with_reducible exact LeO.refl _)
   | (with_reducible exact LeO.none _)
   | (with_reducible refine LeO.ite ?_ ?_)
   | (with_reducible refine LeO.bind ?_ (fun _ => ?_))
   | exact ih0 _ _
   | exact spec_l1Copy.mono _ _
   | exact LeO.none _
   | refine LeO.ite ?_ ?_
   | refine LeO.bind ?_ (fun _ => ?_)
theorem spec_l5Pad.mono : ∀ a0 a1 k, LeO (spec_l5Pad.f k a0 a1) (spec_l5Pad.f (k + 1) a0 a1) := by
 intro a0 a1 k
 have ih0 := spec_l5Pad.mono_l k
 unfold spec_l5Pad.f
 repeat' first
   | (with_reducible exact ih0 _ _)
   | (with_reducible exact spec_l1Copy.mono _ _)
   | (with_reducible exact LeO.refl _)
   | (with_reducible exact LeO.none _)
   | (with_reducible refine LeO.ite ?_ ?_)
   | (with_reducible refine LeO.bind ?_ (fun _ => ?_))
   | exact ih0 _ _
   | exact spec_l1Copy.mono _ _
   | exact LeO.none _
   | refine LeO.ite ?_ ?_
   | refine LeO.bind ?_ (fun _ => ?_)
set_option maxHeartbeats 8000000 in
set_option maxRecDepth 100000 in
theorem spec_l5Pad.calls (k : Nat) (A0 : Option Addr) (c0 : Nat) (l0 : List Int) (a1 : Int) (r : List Int) (w : World) (hr0 : Kd.C (Kd.int .u8) w A0 l0.length l0) (hc0 : l0.length ≤ c0) (h : spec_l5Pad.f k l0 a1 = some r) :
  Calls Tryd.prog 77 #[.slice A0 l0.length c0, .int .i64 a1] w fun e w' => ∃ v0_ : Value, e = .returned (v0_) ∧ Kd.R (Kd.int .u8) 5 w' w.heap.size (fun _ => True) v0_ r ∧ Below w.heap.size w w' := by
 have HR0 := Aside0.mk hr0
 have HC0 := Aside0.mk hc0
 clear hr0 hc0
 have HB := Aside0.mk (Below.refl w.heap.size w)
 have H : ((spec_l1Copy.f k l0).bind fun t263 => (spec_l5Pad.l0 k a1 t263)) = some r := h
 clear h
 replace H := Option.bind_eq_some_iff.mp H
 obtain ⟨t263, A30, H⟩ := H
 replace H : (spec_l5Pad.l0 k a1 t263) = some r := H
 have A3 := Aside0.mk A30
 clear A30
 have H' := Aside0.mk H
 clear H
 go_enter Tryd.func77, Tryd.ntmps77
 go_wp2_with (first | ((with_reducible refine zn (f := 142) rfl ?_); refine zx (some 7) rfl rfl Tryd.func142 (by kernel_rfl) rfl #[.slice A0 l0.length c0] rfl (by (try simp only [List.map_toArray, List.map_cons, List.map_nil]); first | done | rfl | (simp only [List.length_drop, List.length_take]; rfl)) ?_; (with_reducible refine (spec_l1Copy.calls k _ _ l0 t263 _ ?side1 ?side2 A3.out).mono ?_); (case side1 => repeat (first | exact HR0.out | (with_reducible refine Kd.C_alloc ?_ _) | (with_reducible refine Kd.C_drewN ?_ _) | (with_reducible refine Kd.C_drew ?_))); (case side2 => exact HC0.out); rintro e w4 ⟨v264, rfl, zD, hb⟩; refine ⟨_, rfl, ?_⟩; have n0_ := Aside0.mk (Kd.R_lower zD (zk (by repeat (first | (with_reducible first | exact HB.out | apply zd | apply zb | apply zc) | exact HB.out)))); have n1_ := Aside0.mk (zm (by repeat (first | (with_reducible first | exact HB.out | apply zd | apply zb | apply zc) | exact HB.out)) hb); clear HB; have zB := n0_; have HB := n1_; clear n0_ n1_; (try clear hb); (try clear hb2); (try clear hk); (try clear hi); (try clear zD)))
 go_loopg [5] k (fun kq v5 w' => ∃ (x5_1 : List Int), Aside0 (spec_l5Pad.l0 kq a1 x5_1 = some r) ∧ Aside0 (kq ≤ k) ∧ Aside0 (Kd.R (Kd.int .u8) 5 w' w.heap.size (fun _ => True) v5 x5_1) ∧ Aside0 (Below w.heap.size w w'))
 case atStart => exact ⟨(t263), H', ⟨Nat.le_refl _⟩, ⟨by (with_reducible repeat (first | apply Kd.R_alloc | apply Kd.R_drewN | apply Kd.R_drew)); exact zB.out⟩, ⟨by repeat (first | (with_reducible first | exact HB.out | apply zd | apply zb | apply zc) | exact HB.out)⟩⟩
 case round =>
  clear H'
  try clear c1
  try clear p2
  obtain ⟨x5_1, HA, HK1, zA, HB⟩ := hrel
  cases gk with
  | zero => exact absurd HA.out (by simp [spec_l5Pad.l0])
  | succ k1 =>
   have H := HA.out
   clear HA
   simp only [spec_l5Pad.l0] at H
   by_cases c5 : (x5_1.length : Int) < a1
   ·rw [if_pos c5] at H
    have c5b0 : decide ((x5_1.length : Int) < a1) = true := decide_eq_true c5
    clear c5
    by_cases c6 : x5_1.length < 140737488355328
    ·rw [if_pos c6] at H
     have LMc6 := Aside0.mk c6
     clear c6
     obtain ⟨y266, hy266⟩ : ∃ y_ : List Int, y_ = (x5_1 ++ [0]) := ⟨_, rfl⟩
     replace H : (spec_l5Pad.l0 k1 a1 y266) = some r := by first | (rw [hy266]; with_reducible exact H) | (have H2_ := (Option.bind_some _ _).symm.trans H; rw [hy266]; with_reducible exact H2_) | (have H2_ := (Option.bind_some _ _).symm.trans H; with_reducible exact H2_) | with_reducible exact H | (rw [hy266]; exact H) | exact H
     have Ny266 := Aside0.mk hy266
     clear hy266
     have H' := Aside0.mk H
     clear H
     obtain ⟨Ao7, co7, eo7⟩ := Kd.R_slice zA.out
     subst eo7
     go_wp2_with (first | ((with_reducible refine gate_builtin (b := .append) (xs := #[.tmp 12, .tmp 13]) rfl ?_); at_builtin; refine Kd.R_append (Kd.int .u8) (w0 := w) w.heap.size rfl (.tmp 12) (.tmp 13) 22 5 (.int .u8 0) 1 rfl Tryd.underlying22 info5 rfl (by decide) (by omega) (.slice Ao7 x5_1.length co7) x5_1 0 [.int .u8 0] (fun _ => True) (fun _ => False) rfl rfl ?aP (fun _ hk => hk.elim) ?aF ?aO ?aB ?aS ?aL ?_; (case aP => exact rfl); (case aB => exact (by repeat (first | (with_reducible first | exact HB.out | apply zd | apply zb | apply zc) | exact HB.out))); (case aF => exact (fun _ _ => trivial)); (case aO => exact (by (with_reducible repeat (first | apply Kd.R_alloc | apply Kd.R_drewN | apply Kd.R_drew)); exact zA.out)); (case aS => exact (zk (by repeat (first | (with_reducible first | exact HB.out | apply zd | apply zb | apply zc) | exact HB.out)))); (case aL => have := LMc6.out; omega); intro v267 w8 ho hb hg hat; rw [← Ny266.out] at ho; have n0_ := Aside0.mk (hb); have n1_ := Aside0.mk (ho); clear HB; clear zA; have HB := n0_; have zC := n1_; clear n0_ n1_; clear ho hb hg hat))
     go_roundg k1
     case measure => have := HK1.out; omega
     case rel => exact ⟨(y266), H', ⟨by have := HK1.out; omega⟩, ⟨by (with_reducible repeat (first | apply Kd.R_alloc | apply Kd.R_drewN | apply Kd.R_drew)); exact zC.out⟩, ⟨by repeat (first | (with_reducible first | exact HB.out | apply zd | apply zb | apply zc) | exact HB.out)⟩⟩
    ·rw [if_neg c6] at H
     exact absurd H (by simp)
   ·rw [if_neg c5] at H
    have c5b0 : decide ((x5_1.length : Int) < a1) = false := decide_eq_false c5
    clear c5
    obtain rfl := Option.some.inj H
    obtain ⟨Ao9, co9, eo9⟩ := Kd.R_slice zA.out
    subst eo9
    go_wp2
    go_ret
    exact ⟨_, by first | rfl | (simp [errW_none, errW_some] <;> rfl) | (simp [*, errW_none, errW_some] <;> rfl), by (with_reducible repeat (first | apply Kd.R_alloc | apply Kd.R_drewN | apply Kd.R_drew)); exact zA.out, by repeat (first | (with_reducible first | exact HB.out | apply zd | apply zb | apply zc) | exact HB.out)⟩

def spec_FormatDisk.f (k : Nat) (a0_0 : Int) (a0_1 : Int) : Option (List Int × (List (S195))) := (spec_l5Good.f a0_0 a0_1).bind fun t271 => (if t271 = true then ((spec_NewTree.f).bind fun t272 => ((spec_EncodeTree.f k t272).bind fun t275 => ((spec_Crc.f k t275).bind fun t278 => ((spec_EncodeSuper.f k 1 0 0 (t275.length : Int) t278).bind fun t279 => ((spec_l5Pad.f k (([] : List Int)) 64).bind fun t285 => (if t285.length + t279.length < 140737488355328 then ((some (t285 ++ t279 : List Int)).bind fun y288 => (if y288.length + t275.length < 140737488355328 then ((spec_l5Pad.f k (y288 ++ t275) (wrap64 (64 * (wrap64 (2 + (wrap64 (2 * (wrap64 (a0_0 + a0_1))))))))).bind fun t294 => (some (t294, ([] : List (S195))))) else (none))) else (none))))))) else (some (([] : List Int), ([] : List (S195)))))
theorem spec_FormatDisk.mono : ∀ a0 a1 k, LeO (spec_FormatDisk.f k a0 a1) (spec_FormatDisk.f (k + 1) a0 a1) := by
 intro a0 a1 k
 unfold spec_FormatDisk.f
 repeat' first
   | (with_reducible exact spec_Crc.mono _ _)
   | (with_reducible exact spec_EncodeSuper.mono _ _ _ _ _ _)
   | (with_reducible exact spec_EncodeTree.mono _ _)
   | (with_reducible exact spec_l5Pad.mono _ _ _)
   | (with_reducible exact LeO.refl _)
   | (with_reducible exact LeO.none _)
   | (with_reducible refine LeO.ite ?_ ?_)
   | (with_reducible refine LeO.bind ?_ (fun _ => ?_))
   | exact spec_Crc.mono _ _
   | exact spec_EncodeSuper.mono _ _ _ _ _ _
   | exact spec_EncodeTree.mono _ _
   | exact spec_l5Pad.mono _ _ _
   | exact LeO.none _
   | refine LeO.ite ?_ ?_
   | refine LeO.bind ?_ (fun _ => ?_)
set_option maxHeartbeats 8000000 in
set_option maxRecDepth 100000 in
theorem spec_FormatDisk.calls (k : Nat) (a0_0 : Int) (a0_1 : Int) (r1 : List Int) (r2 : List (S195)) (w : World) (h : spec_FormatDisk.f k a0_0 a0_1 = some (r1, r2)) :
  Calls Tryd.prog 24 #[.agg #[.int .i64 a0_0, .int .i64 a0_1]] w fun e w' => ∃ v0_ v1_ : Value, e = .returned (.agg #[v0_, v1_]) ∧ Kd.R (Kd.int .u8) 5 w' w.heap.size (fun _ => True) v0_ r1 ∧ Kd.S k195 195 w' w.heap.size (fun k_ => some k_ ≠ (v0_ : Value).ownBlock) v1_ r2 ∧ Below w.heap.size w w' := by
 have hu49 := Tryd.underlying49
 have hu47 := Tryd.underlying47
 have hu113 := Tryd.underlying113
 have HB := Aside0.mk (Below.refl w.heap.size w)
 have H : ((spec_l5Good.f a0_0 a0_1).bind fun t271 => (if t271 = true then ((spec_NewTree.f).bind fun t272 => ((spec_EncodeTree.f k t272).bind fun t275 => ((spec_Crc.f k t275).bind fun t278 => ((spec_EncodeSuper.f k 1 0 0 (t275.length : Int) t278).bind fun t279 => ((spec_l5Pad.f k (([] : List Int)) 64).bind fun t285 => (if t285.length + t279.length < 140737488355328 then ((some (t285 ++ t279 : List Int)).bind fun y288 => (if y288.length + t275.length < 140737488355328 then ((spec_l5Pad.f k (y288 ++ t275) (wrap64 (64 * (wrap64 (2 + (wrap64 (2 * (wrap64 (a0_0 + a0_1))))))))).bind fun t294 => (some (t294, ([] : List (S195))))) else (none))) else (none))))))) else (some (([] : List Int), ([] : List (S195)))))) = some (r1, r2) := h
 clear h
 replace H := Option.bind_eq_some_iff.mp H
 obtain ⟨t271, A20, H⟩ := H
 replace H : (if t271 = true then ((spec_NewTree.f).bind fun t272 => ((spec_EncodeTree.f k t272).bind fun t275 => ((spec_Crc.f k t275).bind fun t278 => ((spec_EncodeSuper.f k 1 0 0 (t275.length : Int) t278).bind fun t279 => ((spec_l5Pad.f k (([] : List Int)) 64).bind fun t285 => (if t285.length + t279.length < 140737488355328 then ((some (t285 ++ t279 : List Int)).bind fun y288 => (if y288.length + t275.length < 140737488355328 then ((spec_l5Pad.f k (y288 ++ t275) (wrap64 (64 * (wrap64 (2 + (wrap64 (2 * (wrap64 (a0_0 + a0_1))))))))).bind fun t294 => (some (t294, ([] : List (S195))))) else (none))) else (none))))))) else (some (([] : List Int), ([] : List (S195))))) = some (r1, r2) := H
 have A2 := Aside0.mk A20
 clear A20
 by_cases c3 : t271 = true
 ·subst c3
  have H1 : ((spec_NewTree.f).bind fun t272 => ((spec_EncodeTree.f k t272).bind fun t275 => ((spec_Crc.f k t275).bind fun t278 => ((spec_EncodeSuper.f k 1 0 0 (t275.length : Int) t278).bind fun t279 => ((spec_l5Pad.f k (([] : List Int)) 64).bind fun t285 => (if t285.length + t279.length < 140737488355328 then ((some (t285 ++ t279 : List Int)).bind fun y288 => (if y288.length + t275.length < 140737488355328 then ((spec_l5Pad.f k (y288 ++ t275) (wrap64 (64 * (wrap64 (2 + (wrap64 (2 * (wrap64 (a0_0 + a0_1))))))))).bind fun t294 => (some (t294, ([] : List (S195))))) else (none))) else (none))))))) = some (r1, r2) := by rw [if_pos rfl] at H; exact H
  clear H
  have H := H1
  clear H1
  replace H := Option.bind_eq_some_iff.mp H
  obtain ⟨t272, A40, H⟩ := H
  replace H : ((spec_EncodeTree.f k t272).bind fun t275 => ((spec_Crc.f k t275).bind fun t278 => ((spec_EncodeSuper.f k 1 0 0 (t275.length : Int) t278).bind fun t279 => ((spec_l5Pad.f k (([] : List Int)) 64).bind fun t285 => (if t285.length + t279.length < 140737488355328 then ((some (t285 ++ t279 : List Int)).bind fun y288 => (if y288.length + t275.length < 140737488355328 then ((spec_l5Pad.f k (y288 ++ t275) (wrap64 (64 * (wrap64 (2 + (wrap64 (2 * (wrap64 (a0_0 + a0_1))))))))).bind fun t294 => (some (t294, ([] : List (S195))))) else (none))) else (none)))))) = some (r1, r2) := H
  have A4 := Aside0.mk A40
  clear A40
  replace H := Option.bind_eq_some_iff.mp H
  obtain ⟨t275, A50, H⟩ := H
  replace H : ((spec_Crc.f k t275).bind fun t278 => ((spec_EncodeSuper.f k 1 0 0 (t275.length : Int) t278).bind fun t279 => ((spec_l5Pad.f k (([] : List Int)) 64).bind fun t285 => (if t285.length + t279.length < 140737488355328 then ((some (t285 ++ t279 : List Int)).bind fun y288 => (if y288.length + t275.length < 140737488355328 then ((spec_l5Pad.f k (y288 ++ t275) (wrap64 (64 * (wrap64 (2 + (wrap64 (2 * (wrap64 (a0_0 + a0_1))))))))).bind fun t294 => (some (t294, ([] : List (S195))))) else (none))) else (none))))) = some (r1, r2) := H
  have A5 := Aside0.mk A50
  clear A50
  replace H := Option.bind_eq_some_iff.mp H
  obtain ⟨t278, A60, H⟩ := H
  replace H : ((spec_EncodeSuper.f k 1 0 0 (t275.length : Int) t278).bind fun t279 => ((spec_l5Pad.f k (([] : List Int)) 64).bind fun t285 => (if t285.length + t279.length < 140737488355328 then ((some (t285 ++ t279 : List Int)).bind fun y288 => (if y288.length + t275.length < 140737488355328 then ((spec_l5Pad.f k (y288 ++ t275) (wrap64 (64 * (wrap64 (2 + (wrap64 (2 * (wrap64 (a0_0 + a0_1))))))))).bind fun t294 => (some (t294, ([] : List (S195))))) else (none))) else (none)))) = some (r1, r2) := H
  have A6 := Aside0.mk A60
  clear A60
  replace H := Option.bind_eq_some_iff.mp H
  obtain ⟨t279, A70, H⟩ := H
  replace H : ((spec_l5Pad.f k (([] : List Int)) 64).bind fun t285 => (if t285.length + t279.length < 140737488355328 then ((some (t285 ++ t279 : List Int)).bind fun y288 => (if y288.length + t275.length < 140737488355328 then ((spec_l5Pad.f k (y288 ++ t275) (wrap64 (64 * (wrap64 (2 + (wrap64 (2 * (wrap64 (a0_0 + a0_1))))))))).bind fun t294 => (some (t294, ([] : List (S195))))) else (none))) else (none))) = some (r1, r2) := H
  have A7 := Aside0.mk A70
  clear A70
  obtain ⟨y282, hy282⟩ : ∃ y_ : List Int, y_ = (([] : List Int)) := ⟨_, rfl⟩
  replace H : ((spec_l5Pad.f k y282 64).bind fun t285 => (if t285.length + t279.length < 140737488355328 then ((some (t285 ++ t279 : List Int)).bind fun y288 => (if y288.length + t275.length < 140737488355328 then ((spec_l5Pad.f k (y288 ++ t275) (wrap64 (64 * (wrap64 (2 + (wrap64 (2 * (wrap64 (a0_0 + a0_1))))))))).bind fun t294 => (some (t294, ([] : List (S195))))) else (none))) else (none))) = some (r1, r2) := by first | (rw [hy282]; with_reducible exact H) | (have H2_ := (Option.bind_some _ _).symm.trans H; rw [hy282]; with_reducible exact H2_) | (have H2_ := (Option.bind_some _ _).symm.trans H; with_reducible exact H2_) | with_reducible exact H | (rw [hy282]; exact H) | exact H
  have Ny282 := Aside0.mk hy282
  clear hy282
  replace H := Option.bind_eq_some_iff.mp H
  obtain ⟨t285, A80, H⟩ := H
  replace H : (if t285.length + t279.length < 140737488355328 then ((some (t285 ++ t279 : List Int)).bind fun y288 => (if y288.length + t275.length < 140737488355328 then ((spec_l5Pad.f k (y288 ++ t275) (wrap64 (64 * (wrap64 (2 + (wrap64 (2 * (wrap64 (a0_0 + a0_1))))))))).bind fun t294 => (some (t294, ([] : List (S195))))) else (none))) else (none)) = some (r1, r2) := H
  have A8 := Aside0.mk A80
  clear A80
  by_cases c9 : t285.length + t279.length < 140737488355328
  ·rw [if_pos c9] at H
   have LMc9 := Aside0.mk c9
   clear c9
   obtain ⟨y288, hy288⟩ : ∃ y_ : List Int, y_ = (t285 ++ t279) := ⟨_, rfl⟩
   replace H : (if y288.length + t275.length < 140737488355328 then ((spec_l5Pad.f k (y288 ++ t275) (wrap64 (64 * (wrap64 (2 + (wrap64 (2 * (wrap64 (a0_0 + a0_1))))))))).bind fun t294 => (some (t294, ([] : List (S195))))) else (none)) = some (r1, r2) := by first | (rw [hy288]; with_reducible exact H) | (have H2_ := (Option.bind_some _ _).symm.trans H; rw [hy288]; with_reducible exact H2_) | (have H2_ := (Option.bind_some _ _).symm.trans H; with_reducible exact H2_) | with_reducible exact H | (rw [hy288]; exact H) | exact H
   have Ny288 := Aside0.mk hy288
   clear hy288
   by_cases c10 : y288.length + t275.length < 140737488355328
   ·rw [if_pos c10] at H
    have LMc10 := Aside0.mk c10
    clear c10
    obtain ⟨y291, hy291⟩ : ∃ y_ : List Int, y_ = (y288 ++ t275) := ⟨_, rfl⟩
    replace H : ((spec_l5Pad.f k y291 (wrap64 (64 * (wrap64 (2 + (wrap64 (2 * (wrap64 (a0_0 + a0_1))))))))).bind fun t294 => (some (t294, ([] : List (S195))))) = some (r1, r2) := by first | (rw [hy291]; with_reducible exact H) | (have H2_ := (Option.bind_some _ _).symm.trans H; rw [hy291]; with_reducible exact H2_) | (have H2_ := (Option.bind_some _ _).symm.trans H; with_reducible exact H2_) | with_reducible exact H | (rw [hy291]; exact H) | exact H
    have Ny291 := Aside0.mk hy291
    clear hy291
    replace H := Option.bind_eq_some_iff.mp H
    obtain ⟨t294, A110, H⟩ := H
    replace H : (some (t294, ([] : List (S195)))) = some (r1, r2) := H
    have A11 := Aside0.mk A110
    clear A110
    simp only [Option.some.injEq, Prod.mk.injEq] at H
    obtain ⟨rfl, rfl⟩ := H
    go_enter Tryd.func24, Tryd.ntmps24
    go_wp2_with (first | ((with_reducible refine zr (N := 1) rfl ?_); refine zu ?hg (N := 1) ?hd (cs := #[.int .i64 a0_0, .int .i64 a0_1]) (t := 49) ?hr ?_; (case hd => rfl); (case hg => rfl); (case hr => first | (go_simp; done) | (go_simp; rfl)); intro zC hg w12 hbox hb; have n0_ := Aside0.mk (zm (by repeat (first | (with_reducible first | exact HB.out | apply zd | apply zb | apply zc) | exact HB.out)) hb); have n1_ := Aside0.mk (hbox); have n2_ := Aside0.mk ((by rw [hg]; exact (zk (by repeat (first | (with_reducible first | exact HB.out | apply zd | apply zb | apply zc) | exact HB.out))) : w.heap.size ≤ zC)); have n3_ := Aside0.mk ((by rw [hg]; exact (zk (by repeat (first | (with_reducible first | exact HB.out | apply zd | apply zb | apply zc) | exact HB.out))) : w.heap.size ≤ zC)); clear HB; have HB := n0_; have zA := n1_; have GW269 := n2_; have zE := n3_; clear n0_ n1_ n2_ n3_; clear hb hbox hg) | ((with_reducible refine zr (N := 2) rfl ?_); refine zu ?hg (N := 2) ?hd (cs := #[.slice none 0 0, .slice none 0 0]) (t := 47) ?hr ?_; (case hd => rfl); (case hg => rfl); (case hr => first | (go_simp; done) | (go_simp; rfl)); intro zF hg w13 hbox hb; have n0_ := Aside0.mk (zo (g := zC) (o := .cells #[.int .i64 a0_0, .int .i64 a0_1] 49 (0, 0)) (by (with_reducible repeat (first | refine zj ?_ _ | refine zl ?_ | refine zi ?_ _)); exact zA.out) hb); have n1_ := Aside0.mk (zm (by repeat (first | (with_reducible first | exact HB.out | apply zd | apply zb | apply zc | refine zh ?_ zE.out) | exact HB.out)) hb); have n2_ := Aside0.mk (hbox); have n3_ := Aside0.mk ((by rw [hg]; exact (zk (by repeat (first | (with_reducible first | exact HB.out | apply zd | apply zb | apply zc | refine zh ?_ zE.out) | exact HB.out))) : w.heap.size ≤ zF)); have n4_ := Aside0.mk ((by rw [hg]; exact (zk (by repeat (first | (with_reducible first | exact HB.out | apply zd | apply zb | apply zc | refine zh ?_ zE.out) | exact HB.out))) : w.heap.size ≤ zF)); have n5_ := Aside0.mk ((by rw [hg]; exact Nat.ne_of_lt (zw (g := zC) (o := .cells #[.int .i64 a0_0, .int .i64 a0_1] 49 (0, 0)) (by (with_reducible repeat (first | refine zj ?_ _ | refine zl ?_ | refine zi ?_ _)); exact zA.out)) : zC ≠ zF)); have n6_ := Aside0.mk ((by rw [hg]; exact Nat.ne_of_gt (zw (g := zC) (o := .cells #[.int .i64 a0_0, .int .i64 a0_1] 49 (0, 0)) (by (with_reducible repeat (first | refine zj ?_ _ | refine zl ?_ | refine zi ?_ _)); exact zA.out)) : zF ≠ zC)); clear zA; clear HB; have zA := n0_; have HB := n1_; have zB := n2_; have GW270 := n3_; have zH := n4_; have zM := n5_; have zN := n6_; clear n0_ n1_ n2_ n3_ n4_ n5_ n6_; clear hb hbox hg; have zmb := zM.out; have znb := zN.out; have zS : w13.cell? ⟨zC, 0, none⟩ = some (.int .i64 a0_0) := (ze zA.out 0).trans rfl; have zT : w13.cell? ⟨zC, 1, none⟩ = some (.int .i64 a0_1) := (ze zA.out 1).trans rfl; have zU := zg zA.out 0; have zV := zg zA.out 1) | ((with_reducible refine zn (f := 73) rfl ?_); refine zx (some 7) rfl rfl Tryd.func73 (by kernel_rfl) rfl #[.agg #[.int .i64 a0_0, .int .i64 a0_1]] rfl (by (try simp only [List.map_toArray, List.map_cons, List.map_nil]); first | done | rfl | (simp only [List.length_drop, List.length_take]; rfl)) ?_; (with_reducible refine (spec_l5Good.calls a0_0 a0_1 true _ A2.out).mono ?_); rintro e w16 ⟨rfl, hb⟩; refine ⟨_, rfl, ?_⟩; have n0_ := Aside0.mk (zo (g := zC) (o := .cells #[.int .i64 a0_0, .int .i64 a0_1] 49 (0, 0)) (by (with_reducible repeat (first | refine zj ?_ _ | refine zl ?_ | refine zi ?_ _)); exact zA.out) hb); have n1_ := Aside0.mk (zo (g := zF) (o := .cells #[.slice none 0 0, .slice none 0 0] 47 (0, 0)) (by (with_reducible repeat (first | refine zj ?_ _ | refine zl ?_ | refine zi ?_ _)); exact zB.out) hb); have n2_ := Aside0.mk (zm (by repeat (first | (with_reducible first | exact HB.out | apply zd | apply zb | apply zc | refine zh ?_ zE.out | refine zh ?_ zH.out) | exact HB.out)) hb); clear zA; clear zB; clear HB; have zA := n0_; have zB := n1_; have HB := n2_; clear n0_ n1_ n2_; (try clear hb); (try clear hb2); (try clear hk); (try clear hi)) | ((with_reducible refine zn (f := 75) rfl ?_); refine zx (some 10) rfl rfl Tryd.func75 (by kernel_rfl) rfl #[] rfl (by (try simp only [List.map_toArray, List.map_cons, List.map_nil]); first | done | rfl | (simp only [List.length_drop, List.length_take]; rfl)) ?_; (with_reducible refine (spec_NewTree.calls  t272 _ A4.out).mono ?_); rintro e w17 ⟨v273, rfl, zK, hb⟩; refine ⟨_, rfl, ?_⟩; have n0_ := Aside0.mk (Kd.R_lower zK (zk (by repeat (first | (with_reducible first | exact HB.out | apply zd | apply zb | apply zc | refine zh ?_ zE.out | refine zh ?_ zH.out) | exact HB.out)))); have n1_ := Aside0.mk (zo (g := zC) (o := .cells #[.int .i64 a0_0, .int .i64 a0_1] 49 (0, 0)) (by (with_reducible repeat (first | refine zj ?_ _ | refine zl ?_ | refine zi ?_ _)); exact zA.out) hb); have n2_ := Aside0.mk (zo (g := zF) (o := .cells #[.slice none 0 0, .slice none 0 0] 47 (0, 0)) (by (with_reducible repeat (first | refine zj ?_ _ | refine zl ?_ | refine zi ?_ _)); exact zB.out) hb); have n3_ := Aside0.mk (zm (by repeat (first | (with_reducible first | exact HB.out | apply zd | apply zb | apply zc | refine zh ?_ zE.out | refine zh ?_ zH.out) | exact HB.out)) hb); clear zA; clear zB; clear HB; have zG := n0_; have zA := n1_; have zB := n2_; have HB := n3_; clear n0_ n1_ n2_ n3_; (try clear hb); (try clear hb2); (try clear hk); (try clear hi); (try clear zK); obtain ⟨Ao18, co18, eo18⟩ := Kd.R_slice zG.out; subst eo18) | ((with_reducible refine zn (f := 74) rfl ?_); refine zx (some 11) rfl rfl Tryd.func74 (by kernel_rfl) rfl #[.agg #[.slice Ao18 t272.length co18]] rfl (by (try simp only [List.map_toArray, List.map_cons, List.map_nil]); first | done | rfl | (simp only [List.length_drop, List.length_take]; rfl)) ?_; (with_reducible refine (spec_EncodeTree.calls k _ _ t272 t275 _ ?side1 ?side2 A5.out).mono ?_); (case side1 => repeat (first | exact (Kd.R_reads' zG.out).2.2 | (with_reducible refine Kd.C_alloc ?_ _) | (with_reducible refine Kd.C_drewN ?_ _) | (with_reducible refine Kd.C_drew ?_))); (case side2 => exact (Kd.R_reads' zG.out).2.1); rintro e w19 ⟨v276, rfl, zK, hb⟩; refine ⟨_, rfl, ?_⟩; have n0_ := Aside0.mk (Kd.R_below (by (with_reducible repeat (first | apply Kd.R_alloc | apply Kd.R_drewN | apply Kd.R_drew)); exact zG.out) hb); have n1_ := Aside0.mk (Kd.R_lower zK (zk (by repeat (first | (with_reducible first | exact HB.out | apply zd | apply zb | apply zc | refine zh ?_ zE.out | refine zh ?_ zH.out) | exact HB.out)))); have n2_ := Aside0.mk (zo (g := zC) (o := .cells #[.int .i64 a0_0, .int .i64 a0_1] 49 (0, 0)) (by (with_reducible repeat (first | refine zj ?_ _ | refine zl ?_ | refine zi ?_ _)); exact zA.out) hb); have n3_ := Aside0.mk (zo (g := zF) (o := .cells #[.slice none 0 0, .slice none 0 0] 47 (0, 0)) (by (with_reducible repeat (first | refine zj ?_ _ | refine zl ?_ | refine zi ?_ _)); exact zB.out) hb); have n4_ := Aside0.mk (zm (by repeat (first | (with_reducible first | exact HB.out | apply zd | apply zb | apply zc | refine zh ?_ zE.out | refine zh ?_ zH.out) | exact HB.out)) hb); clear zG; clear zA; clear zB; clear HB; have zG := n0_; have zD := n1_; have zA := n2_; have zB := n3_; have HB := n4_; clear n0_ n1_ n2_ n3_ n4_; (try clear hb); (try clear hb2); (try clear hk); (try clear hi); (try clear zK); obtain ⟨Ao20, co20, eo20⟩ := Kd.R_slice zD.out; subst eo20) | ((with_reducible refine zn (f := 60) rfl ?_); refine zx (some 15) rfl rfl Tryd.func60 (by kernel_rfl) rfl #[.slice Ao20 t275.length co20] rfl (by (try simp only [List.map_toArray, List.map_cons, List.map_nil]); first | done | rfl | (simp only [List.length_drop, List.length_take]; rfl)) ?_; (with_reducible refine (spec_Crc.calls k _ _ t275 t278 _ ?side1 ?side2 A6.out).mono ?_); (case side1 => repeat (first | exact (Kd.R_reads' zD.out).2.2 | (with_reducible refine Kd.C_alloc ?_ _) | (with_reducible refine Kd.C_drewN ?_ _) | (with_reducible refine Kd.C_drew ?_))); (case side2 => exact (Kd.R_reads' zD.out).2.1); rintro e w' ⟨rfl, ⟨nd, rfl⟩⟩; refine ⟨_, rfl, ?_⟩; (try (rw [drewN_self w19]; generalize hq_ : World.drewN w19 _ = w19; have n0_ : Aside0 (Kd.R k92 92 w19 w.heap.size (fun _ => True) (.slice Ao18 t272.length co18) t272) := ⟨by rw [← hq_]; exact (by (with_reducible repeat (first | apply Kd.R_alloc | apply Kd.R_drewN | apply Kd.R_drew)); exact zG.out)⟩; have n1_ : Aside0 (Kd.R (Kd.int .u8) 5 w19 w.heap.size (fun _ => True) (.slice Ao20 t275.length co20) t275) := ⟨by rw [← hq_]; exact (by (with_reducible repeat (first | apply Kd.R_alloc | apply Kd.R_drewN | apply Kd.R_drew)); exact zD.out)⟩; have n2_ : Aside0 (w19.heap[zC]? = some (.cells #[.int .i64 a0_0, .int .i64 a0_1] 49 (0, 0))) := ⟨by rw [← hq_]; exact (by (with_reducible repeat (first | refine zj ?_ _ | refine zl ?_ | refine zi ?_ _)); exact zA.out)⟩; have n3_ : Aside0 (w19.heap[zF]? = some (.cells #[.slice none 0 0, .slice none 0 0] 47 (0, 0))) := ⟨by rw [← hq_]; exact (by (with_reducible repeat (first | refine zj ?_ _ | refine zl ?_ | refine zi ?_ _)); exact zB.out)⟩; have n4_ : Aside0 (Below w.heap.size w w19) := ⟨by rw [← hq_]; exact (by repeat (first | (with_reducible first | exact HB.out | apply zd | apply zb | apply zc | refine zh ?_ zE.out | refine zh ?_ zH.out) | exact HB.out))⟩; clear zG zD zA zB HB hq_; have zG := n0_; have zD := n1_; have zA := n2_; have zB := n3_; have HB := n4_; clear n0_ n1_ n2_ n3_ n4_))) | ((with_reducible refine zn (f := 76) rfl ?_); refine zx (some 17) rfl rfl Tryd.func76 (by kernel_rfl) rfl #[.agg #[.int .i64 1, .int .i64 0, .int .i64 0, .int .i64 (t275.length : Int), .int .i64 t278]] rfl (by (try simp only [List.map_toArray, List.map_cons, List.map_nil]); first | done | rfl | (simp only [List.length_drop, List.length_take]; rfl)) ?_; (with_reducible refine (spec_EncodeSuper.calls k 1 0 0 (t275.length : Int) t278 t279 _ A7.out).mono ?_); rintro e w21 ⟨v280, rfl, zK, hb⟩; refine ⟨_, rfl, ?_⟩; have n0_ := Aside0.mk (Kd.R_below (by (with_reducible repeat (first | apply Kd.R_alloc | apply Kd.R_drewN | apply Kd.R_drew)); exact zG.out) hb); have n1_ := Aside0.mk (Kd.R_elder' (by (with_reducible repeat (first | apply Kd.R_alloc | apply Kd.R_drewN | apply Kd.R_drew)); exact zD.out) (Kd.R_base zK) hb); have n2_ := Aside0.mk (Kd.R_lower (Kd.R_new' zK (Kd.R_lt (by (with_reducible repeat (first | apply Kd.R_alloc | apply Kd.R_drewN | apply Kd.R_drew)); exact zD.out))) (zk (by repeat (first | (with_reducible first | exact HB.out | apply zd | apply zb | apply zc | refine zh ?_ zE.out | refine zh ?_ zH.out) | exact HB.out)))); have n3_ := Aside0.mk (zo (g := zC) (o := .cells #[.int .i64 a0_0, .int .i64 a0_1] 49 (0, 0)) (by (with_reducible repeat (first | refine zj ?_ _ | refine zl ?_ | refine zi ?_ _)); exact zA.out) hb); have n4_ := Aside0.mk (zo (g := zF) (o := .cells #[.slice none 0 0, .slice none 0 0] 47 (0, 0)) (by (with_reducible repeat (first | refine zj ?_ _ | refine zl ?_ | refine zi ?_ _)); exact zB.out) hb); have n5_ := Aside0.mk (zm (by repeat (first | (with_reducible first | exact HB.out | apply zd | apply zb | apply zc | refine zh ?_ zE.out | refine zh ?_ zH.out) | exact HB.out)) hb); clear zG; clear zD; clear zA; clear zB; clear HB; have zG := n0_; have zD := n1_; have zI := n2_; have zA := n3_; have zB := n4_; have HB := n5_; clear n0_ n1_ n2_ n3_ n4_ n5_; (try clear hb); (try clear hb2); (try clear hk); (try clear hi); (try clear zK)) | ((with_reducible refine zr (N := 18) rfl ?_); refine Kd.R_lit (Kd.int .u8) _ 5 ?hg (N := 18) ?hd (xs := ([] : List Int)) (inner := []) (ok := fun _ => True) (okp := fun _ => True) ?hr ?hp (fun _ hk => hk) trivial (Below.refl _ _) (Nat.le_refl _) (by simp) ?_; (case hd => rfl); (case hg => rfl); (case hr => first | (go_simp; done) | (go_simp; rfl)); (case hp => exact (Reps.none _ _)); intro v283 w22 zO hb hg_ hnew_; clear hg_ hnew_; (first | rw [← Ny282.out] at zO | (simp only [Int.reduceToNat] at zO; rw [← Ny282.out] at zO)); have n0_ := Aside0.mk (Kd.R_below (by (with_reducible repeat (first | apply Kd.R_alloc | apply Kd.R_drewN | apply Kd.R_drew)); exact zG.out) hb); have n1_ := Aside0.mk (Kd.R_elder' (by (with_reducible repeat (first | apply Kd.R_alloc | apply Kd.R_drewN | apply Kd.R_drew)); exact zD.out) (Kd.R_base zO) hb); have n2_ := Aside0.mk (Kd.R_elder' (by (with_reducible repeat (first | apply Kd.R_alloc | apply Kd.R_drewN | apply Kd.R_drew)); exact zI.out) (Kd.R_base zO) hb); have n3_ := Aside0.mk (Kd.R_lower (Kd.R_new' (Kd.R_new' zO (Kd.R_lt (by (with_reducible repeat (first | apply Kd.R_alloc | apply Kd.R_drewN | apply Kd.R_drew)); exact zD.out))) (Kd.R_lt (by (with_reducible repeat (first | apply Kd.R_alloc | apply Kd.R_drewN | apply Kd.R_drew)); exact zI.out))) (zk (by repeat (first | (with_reducible first | exact HB.out | apply zd | apply zb | apply zc | refine zh ?_ zE.out | refine zh ?_ zH.out) | exact HB.out)))); have n4_ := Aside0.mk (zo (g := zC) (o := .cells #[.int .i64 a0_0, .int .i64 a0_1] 49 (0, 0)) (by (with_reducible repeat (first | refine zj ?_ _ | refine zl ?_ | refine zi ?_ _)); exact zA.out) hb); have n5_ := Aside0.mk (zo (g := zF) (o := .cells #[.slice none 0 0, .slice none 0 0] 47 (0, 0)) (by (with_reducible repeat (first | refine zj ?_ _ | refine zl ?_ | refine zi ?_ _)); exact zB.out) hb); have n6_ := Aside0.mk (zm (by repeat (first | (with_reducible first | exact HB.out | apply zd | apply zb | apply zc | refine zh ?_ zE.out | refine zh ?_ zH.out) | exact HB.out)) hb); clear zG; clear zD; clear zI; clear zA; clear zB; clear HB; have zG := n0_; have zD := n1_; have zI := n2_; have zJ := n3_; have zA := n4_; have zB := n5_; have HB := n6_; clear n0_ n1_ n2_ n3_ n4_ n5_ n6_; clear hb zO; obtain ⟨Ao24, co24, eo24⟩ := Kd.R_slice zJ.out; subst eo24) | ((with_reducible refine zn (f := 77) rfl ?_); refine zx (some 19) rfl rfl Tryd.func77 (by kernel_rfl) rfl #[.slice Ao24 y282.length co24, .int .i64 64] rfl (by (try simp only [List.map_toArray, List.map_cons, List.map_nil]); first | done | rfl | (simp only [List.length_drop, List.length_take]; rfl)) ?_; (with_reducible refine (spec_l5Pad.calls k _ _ y282 64 t285 _ ?side1 ?side2 A8.out).mono ?_); (case side1 => repeat (first | exact (Kd.R_reads' zJ.out).2.2 | (with_reducible refine Kd.C_alloc ?_ _) | (with_reducible refine Kd.C_drewN ?_ _) | (with_reducible refine Kd.C_drew ?_))); (case side2 => exact (Kd.R_reads' zJ.out).2.1); rintro e w25 ⟨v286, rfl, zK, hb⟩; refine ⟨_, rfl, ?_⟩; have n0_ := Aside0.mk (Kd.R_below (by (with_reducible repeat (first | apply Kd.R_alloc | apply Kd.R_drewN | apply Kd.R_drew)); exact zG.out) hb); have n1_ := Aside0.mk (Kd.R_elder' (by (with_reducible repeat (first | apply Kd.R_alloc | apply Kd.R_drewN | apply Kd.R_drew)); exact zD.out) (Kd.R_base zK) hb); have n2_ := Aside0.mk (Kd.R_elder' (by (with_reducible repeat (first | apply Kd.R_alloc | apply Kd.R_drewN | apply Kd.R_drew)); exact zI.out) (Kd.R_base zK) hb); have n3_ := Aside0.mk (Kd.R_elder' (by (with_reducible repeat (first | apply Kd.R_alloc | apply Kd.R_drewN | apply Kd.R_drew)); exact zJ.out) (Kd.R_base zK) hb); have n4_ := Aside0.mk (Kd.R_lower (Kd.R_new' (Kd.R_new' (Kd.R_new' zK (Kd.R_lt (by (with_reducible repeat (first | apply Kd.R_alloc | apply Kd.R_drewN | apply Kd.R_drew)); exact zD.out))) (Kd.R_lt (by (with_reducible repeat (first | apply Kd.R_alloc | apply Kd.R_drewN | apply Kd.R_drew)); exact zI.out))) (Kd.R_lt (by (with_reducible repeat (first | apply Kd.R_alloc | apply Kd.R_drewN | apply Kd.R_drew)); exact zJ.out))) (zk (by repeat (first | (with_reducible first | exact HB.out | apply zd | apply zb | apply zc | refine zh ?_ zE.out | refine zh ?_ zH.out) | exact HB.out)))); have n5_ := Aside0.mk (zo (g := zC) (o := .cells #[.int .i64 a0_0, .int .i64 a0_1] 49 (0, 0)) (by (with_reducible repeat (first | refine zj ?_ _ | refine zl ?_ | refine zi ?_ _)); exact zA.out) hb); have n6_ := Aside0.mk (zo (g := zF) (o := .cells #[.slice none 0 0, .slice none 0 0] 47 (0, 0)) (by (with_reducible repeat (first | refine zj ?_ _ | refine zl ?_ | refine zi ?_ _)); exact zB.out) hb); have n7_ := Aside0.mk (zm (by repeat (first | (with_reducible first | exact HB.out | apply zd | apply zb | apply zc | refine zh ?_ zE.out | refine zh ?_ zH.out) | exact HB.out)) hb); clear zG; clear zD; clear zI; clear zJ; clear zA; clear zB; clear HB; have zG := n0_; have zD := n1_; have zI := n2_; have zJ := n3_; have zP := n4_; have zA := n5_; have zB := n6_; have HB := n7_; clear n0_ n1_ n2_ n3_ n4_ n5_ n6_ n7_; (try clear hb); (try clear hb2); (try clear hk); (try clear hi); (try clear zK); obtain ⟨Ao27, co27, eo27⟩ := Kd.R_slice zI.out; subst eo27) | ((with_reducible refine gate_builtin (b := .append) (xs := #[.tmp 20, .tmp 21]) rfl ?_); at_builtin; refine Kd.R_append_rows (Kd.int .u8) (w0 := w) w.heap.size rfl (.tmp 20) (.tmp 21) 22 5 (.int .u8 0) 1 rfl Tryd.underlying22 info5 rfl (by decide) (by omega) v286 t285 t279 _ _ _ (fun k_ => some k_ ≠ (.slice Ao20 t275.length co20 : Value).ownBlock ∧ some k_ ≠ (.slice Ao27 t279.length co27 : Value).ownBlock ∧ some k_ ≠ (.slice Ao24 y282.length co24 : Value).ownBlock) (fun _ => False) rfl rfl ?aO ?aR (fun _ _ h => h) (fun _ h => h.elim) ?aF ?aB ?aS ?aL ?_; (case aR => repeat (first | exact (Kd.R_reads' zI.out).2.2 | (with_reducible refine Kd.C_alloc ?_ _) | (with_reducible refine Kd.C_drewN ?_ _) | (with_reducible refine Kd.C_drew ?_))); (case aB => exact (by repeat (first | (with_reducible first | exact HB.out | apply zd | apply zb | apply zc | refine zh ?_ zE.out | refine zh ?_ zH.out) | exact HB.out))); (case aF => exact (fun k_ hk => ⟨Kd.fresh' (Kd.R_lt (by (with_reducible repeat (first | apply Kd.R_alloc | apply Kd.R_drewN | apply Kd.R_drew)); exact zD.out)) k_ hk, Kd.fresh' (Kd.R_lt (by (with_reducible repeat (first | apply Kd.R_alloc | apply Kd.R_drewN | apply Kd.R_drew)); exact zI.out)) k_ hk, Kd.fresh' (Kd.R_lt (by (with_reducible repeat (first | apply Kd.R_alloc | apply Kd.R_drewN | apply Kd.R_drew)); exact zJ.out)) k_ hk⟩)); (case aO => exact (by (with_reducible repeat (first | apply Kd.R_alloc | apply Kd.R_drewN | apply Kd.R_drew)); exact Kd.R_mono zP.out (fun _ hk => ⟨hk.1.1.2, ⟨hk.1.2, hk.2⟩⟩))); (case aS => exact (zk (by repeat (first | (with_reducible first | exact HB.out | apply zd | apply zb | apply zc | refine zh ?_ zE.out | refine zh ?_ zH.out) | exact HB.out)))); (case aL => have := LMc9.out; omega); intro v289 w26 ho hb hg hat; rw [← Ny288.out] at ho; have n0_ := Aside0.mk (zz (g := zC) (o := .cells #[.int .i64 a0_0, .int .i64 a0_1] 49 (0, 0)) (by (with_reducible repeat (first | refine zj ?_ _ | refine zl ?_ | refine zi ?_ _)); exact zA.out) hg (Kd.R_ne zP.out zA.out (by decide))); have n1_ := Aside0.mk (zz (g := zF) (o := .cells #[.slice none 0 0, .slice none 0 0] 47 (0, 0)) (by (with_reducible repeat (first | refine zj ?_ _ | refine zl ?_ | refine zi ?_ _)); exact zB.out) hg (Kd.R_ne zP.out zB.out (by decide))); have n2_ := Aside0.mk (Kd.R_over' (by (with_reducible repeat (first | apply Kd.R_alloc | apply Kd.R_drewN | apply Kd.R_drew)); exact zG.out) (Kd.R_typed (by (with_reducible repeat (first | apply Kd.R_alloc | apply Kd.R_drewN | apply Kd.R_drew)); exact zP.out)) (by decide) hg); have n3_ := Aside0.mk (Kd.R_after (ok := (fun k_ => some k_ ≠ (.slice Ao27 t279.length co27 : Value).ownBlock ∧ some k_ ≠ (.slice Ao24 y282.length co24 : Value).ownBlock)) (by (with_reducible repeat (first | apply Kd.R_alloc | apply Kd.R_drewN | apply Kd.R_drew)); exact Kd.R_mono zD.out (fun _ hk => ⟨⟨hk.1.1.2, hk.1.2⟩, hk.2⟩)) hg hat); have n4_ := Aside0.mk (Kd.R_after (ok := (fun k_ => some k_ ≠ (.slice Ao20 t275.length co20 : Value).ownBlock ∧ some k_ ≠ (.slice Ao24 y282.length co24 : Value).ownBlock)) (by (with_reducible repeat (first | apply Kd.R_alloc | apply Kd.R_drewN | apply Kd.R_drew)); exact Kd.R_mono zI.out (fun _ hk => ⟨⟨hk.1.1.2, hk.1.2⟩, hk.2⟩)) hg hat); have n5_ := Aside0.mk (Kd.R_after (ok := (fun k_ => some k_ ≠ (.slice Ao20 t275.length co20 : Value).ownBlock ∧ some k_ ≠ (.slice Ao27 t279.length co27 : Value).ownBlock)) (by (with_reducible repeat (first | apply Kd.R_alloc | apply Kd.R_drewN | apply Kd.R_drew)); exact Kd.R_mono zJ.out (fun _ hk => ⟨⟨hk.1.1.2, hk.1.2⟩, hk.2⟩)) hg hat); have n6_ := Aside0.mk (hb); have n7_ := Aside0.mk (ho); clear zA; clear zB; clear zG; clear zD; clear zI; clear zJ; clear HB; clear zP; have zA := n0_; have zB := n1_; have zG := n2_; have zD := n3_; have zI := n4_; have zJ := n5_; have HB := n6_; have zQ := n7_; clear n0_ n1_ n2_ n3_ n4_ n5_ n6_ n7_; clear ho hb hg hat) | ((with_reducible refine gate_builtin (b := .append) (xs := #[.tmp 23, .tmp 24]) rfl ?_); at_builtin; refine Kd.R_append_rows (Kd.int .u8) (w0 := w) w.heap.size rfl (.tmp 23) (.tmp 24) 22 5 (.int .u8 0) 1 rfl Tryd.underlying22 info5 rfl (by decide) (by omega) v289 y288 t275 _ _ _ (fun k_ => some k_ ≠ (.slice Ao20 t275.length co20 : Value).ownBlock ∧ some k_ ≠ (.slice Ao27 t279.length co27 : Value).ownBlock ∧ some k_ ≠ (.slice Ao24 y282.length co24 : Value).ownBlock) (fun _ => False) rfl rfl ?aO ?aR (fun _ _ h => h) (fun _ h => h.elim) ?aF ?aB ?aS ?aL ?_; (case aR => repeat (first | exact (Kd.R_reads' zD.out).2.2 | (with_reducible refine Kd.C_alloc ?_ _) | (with_reducible refine Kd.C_drewN ?_ _) | (with_reducible refine Kd.C_drew ?_))); (case aB => exact (by repeat (first | (with_reducible first | exact HB.out | apply zd | apply zb | apply zc | refine zh ?_ zE.out | refine zh ?_ zH.out) | exact HB.out))); (case aF => exact (fun k_ hk => ⟨Kd.fresh' (Kd.R_lt (by (with_reducible repeat (first | apply Kd.R_alloc | apply Kd.R_drewN | apply Kd.R_drew)); exact zD.out)) k_ hk, Kd.fresh' (Kd.R_lt (by (with_reducible repeat (first | apply Kd.R_alloc | apply Kd.R_drewN | apply Kd.R_drew)); exact zI.out)) k_ hk, Kd.fresh' (Kd.R_lt (by (with_reducible repeat (first | apply Kd.R_alloc | apply Kd.R_drewN | apply Kd.R_drew)); exact zJ.out)) k_ hk⟩)); (case aO => exact (by (with_reducible repeat (first | apply Kd.R_alloc | apply Kd.R_drewN | apply Kd.R_drew)); exact zQ.out)); (case aS => exact (zk (by repeat (first | (with_reducible first | exact HB.out | apply zd | apply zb | apply zc | refine zh ?_ zE.out | refine zh ?_ zH.out) | exact HB.out)))); (case aL => have := LMc10.out; omega); intro v292 w28 ho hb hg hat; rw [← Ny291.out] at ho; have n0_ := Aside0.mk (zz (g := zC) (o := .cells #[.int .i64 a0_0, .int .i64 a0_1] 49 (0, 0)) (by (with_reducible repeat (first | refine zj ?_ _ | refine zl ?_ | refine zi ?_ _)); exact zA.out) hg (Kd.R_ne zQ.out zA.out (by decide))); have n1_ := Aside0.mk (zz (g := zF) (o := .cells #[.slice none 0 0, .slice none 0 0] 47 (0, 0)) (by (with_reducible repeat (first | refine zj ?_ _ | refine zl ?_ | refine zi ?_ _)); exact zB.out) hg (Kd.R_ne zQ.out zB.out (by decide))); have n2_ := Aside0.mk (Kd.R_over' (by (with_reducible repeat (first | apply Kd.R_alloc | apply Kd.R_drewN | apply Kd.R_drew)); exact zG.out) (Kd.R_typed (by (with_reducible repeat (first | apply Kd.R_alloc | apply Kd.R_drewN | apply Kd.R_drew)); exact zQ.out)) (by decide) hg); have n3_ := Aside0.mk (Kd.R_after (ok := (fun k_ => some k_ ≠ (.slice Ao27 t279.length co27 : Value).ownBlock ∧ some k_ ≠ (.slice Ao24 y282.length co24 : Value).ownBlock)) (by (with_reducible repeat (first | apply Kd.R_alloc | apply Kd.R_drewN | apply Kd.R_drew)); exact zD.out) hg hat); have n4_ := Aside0.mk (Kd.R_after (ok := (fun k_ => some k_ ≠ (.slice Ao20 t275.length co20 : Value).ownBlock ∧ some k_ ≠ (.slice Ao24 y282.length co24 : Value).ownBlock)) (by (with_reducible repeat (first | apply Kd.R_alloc | apply Kd.R_drewN | apply Kd.R_drew)); exact zI.out) hg hat); have n5_ := Aside0.mk (Kd.R_after (ok := (fun k_ => some k_ ≠ (.slice Ao20 t275.length co20 : Value).ownBlock ∧ some k_ ≠ (.slice Ao27 t279.length co27 : Value).ownBlock)) (by (with_reducible repeat (first | apply Kd.R_alloc | apply Kd.R_drewN | apply Kd.R_drew)); exact zJ.out) hg hat); have n6_ := Aside0.mk (hb); have n7_ := Aside0.mk (ho); clear zA; clear zB; clear zG; clear zD; clear zI; clear zJ; clear HB; clear zQ; have zA := n0_; have zB := n1_; have zG := n2_; have zD := n3_; have zI := n4_; have zJ := n5_; have HB := n6_; have zL := n7_; clear n0_ n1_ n2_ n3_ n4_ n5_ n6_ n7_; clear ho hb hg hat; have zW : w28.cell? ⟨zC, 0, none⟩ = some (.int .i64 a0_0) := (ze zA.out 0).trans rfl; have zX : w28.cell? ⟨zC, 1, none⟩ = some (.int .i64 a0_1) := (ze zA.out 1).trans rfl; have zY := zg zA.out 0; have zZ := zg zA.out 1; obtain ⟨Ao30, co30, eo30⟩ := Kd.R_slice zL.out; subst eo30) | ((with_reducible refine zn (f := 77) rfl ?_); refine zx (some 35) rfl rfl Tryd.func77 (by kernel_rfl) rfl #[.slice Ao30 y291.length co30, .int .i64 (wrap64 (64 * (wrap64 (2 + (wrap64 (2 * (wrap64 (a0_0 + a0_1))))))))] rfl (by (try simp only [List.map_toArray, List.map_cons, List.map_nil]); first | done | rfl | (simp only [List.length_drop, List.length_take]; rfl)) ?_; (with_reducible refine (spec_l5Pad.calls k _ _ y291 (wrap64 (64 * (wrap64 (2 + (wrap64 (2 * (wrap64 (a0_0 + a0_1)))))))) t294 _ ?side1 ?side2 A11.out).mono ?_); (case side1 => repeat (first | exact (Kd.R_reads' zL.out).2.2 | (with_reducible refine Kd.C_alloc ?_ _) | (with_reducible refine Kd.C_drewN ?_ _) | (with_reducible refine Kd.C_drew ?_))); (case side2 => exact (Kd.R_reads' zL.out).2.1); rintro e w31 ⟨v295, rfl, zK, hb⟩; refine ⟨_, rfl, ?_⟩; have n0_ := Aside0.mk (Kd.R_below (by (with_reducible repeat (first | apply Kd.R_alloc | apply Kd.R_drewN | apply Kd.R_drew)); exact zG.out) hb); have n1_ := Aside0.mk (Kd.R_elder' (by (with_reducible repeat (first | apply Kd.R_alloc | apply Kd.R_drewN | apply Kd.R_drew)); exact zD.out) (Kd.R_base zK) hb); have n2_ := Aside0.mk (Kd.R_elder' (by (with_reducible repeat (first | apply Kd.R_alloc | apply Kd.R_drewN | apply Kd.R_drew)); exact zI.out) (Kd.R_base zK) hb); have n3_ := Aside0.mk (Kd.R_elder' (by (with_reducible repeat (first | apply Kd.R_alloc | apply Kd.R_drewN | apply Kd.R_drew)); exact zJ.out) (Kd.R_base zK) hb); have n4_ := Aside0.mk (Kd.R_elder' (by (with_reducible repeat (first | apply Kd.R_alloc | apply Kd.R_drewN | apply Kd.R_drew)); exact zL.out) (Kd.R_base zK) hb); have n5_ := Aside0.mk (Kd.R_lower (Kd.R_new' (Kd.R_new' (Kd.R_new' (Kd.R_new' zK (Kd.R_lt (by (with_reducible repeat (first | apply Kd.R_alloc | apply Kd.R_drewN | apply Kd.R_drew)); exact zD.out))) (Kd.R_lt (by (with_reducible repeat (first | apply Kd.R_alloc | apply Kd.R_drewN | apply Kd.R_drew)); exact zI.out))) (Kd.R_lt (by (with_reducible repeat (first | apply Kd.R_alloc | apply Kd.R_drewN | apply Kd.R_drew)); exact zJ.out))) (Kd.R_lt (by (with_reducible repeat (first | apply Kd.R_alloc | apply Kd.R_drewN | apply Kd.R_drew)); exact zL.out))) (zk (by repeat (first | (with_reducible first | exact HB.out | apply zd | apply zb | apply zc | refine zh ?_ zE.out | refine zh ?_ zH.out) | exact HB.out)))); have n6_ := Aside0.mk (zo (g := zC) (o := .cells #[.int .i64 a0_0, .int .i64 a0_1] 49 (0, 0)) (by (with_reducible repeat (first | refine zj ?_ _ | refine zl ?_ | refine zi ?_ _)); exact zA.out) hb); have n7_ := Aside0.mk (zo (g := zF) (o := .cells #[.slice none 0 0, .slice none 0 0] 47 (0, 0)) (by (with_reducible repeat (first | refine zj ?_ _ | refine zl ?_ | refine zi ?_ _)); exact zB.out) hb); have n8_ := Aside0.mk (zm (by repeat (first | (with_reducible first | exact HB.out | apply zd | apply zb | apply zc | refine zh ?_ zE.out | refine zh ?_ zH.out) | exact HB.out)) hb); clear zG; clear zD; clear zI; clear zJ; clear zL; clear zA; clear zB; clear HB; have zG := n0_; have zD := n1_; have zI := n2_; have zJ := n3_; have zL := n4_; have zR := n5_; have zA := n6_; have zB := n7_; have HB := n8_; clear n0_ n1_ n2_ n3_ n4_ n5_ n6_ n7_ n8_; (try clear hb); (try clear hb2); (try clear hk); (try clear hi); (try clear zK); obtain ⟨Ao32, co32, eo32⟩ := Kd.R_slice zR.out; subst eo32; have zab : w31.cell? ⟨zF, 0, none⟩ = some (.slice none 0 0) := (ze zB.out 0).trans rfl; have zbb : w31.cell? ⟨zF, 1, none⟩ = some (.slice none 0 0) := (ze zB.out 1).trans rfl; have zcb := zg zB.out 0; have zdb := zg zB.out 1))
    refine bodyPost_ret (results_cell_row rfl _ _ zF 47 #[.slice Ao32 t294.length co32, .slice none 0 0] (0, 0) _ rfl (by (with_reducible repeat (first | refine zj ?_ _ | refine zl ?_ | refine zi ?_ _)); refine zy (cs := #[.slice Ao32 t294.length co32, .slice none 0 0]) ?_ 1 _ rfl; (with_reducible repeat (first | refine zj ?_ _ | refine zl ?_ | refine zi ?_ _)); refine zy (cs := #[.slice none 0 0, .slice none 0 0]) ?_ 0 _ rfl; (with_reducible repeat (first | refine zj ?_ _ | refine zl ?_ | refine zi ?_ _)); exact zB.out) Tryd.underlying47 rfl (by kernel_rfl)) rfl ?_
    exact ⟨_, _, by first | rfl | (simp [errW_none, errW_some] <;> rfl) | (simp [*, errW_none, errW_some] <;> rfl), by (with_reducible repeat (first | apply Kd.R_alloc | apply Kd.R_drewN | apply Kd.R_drew)); exact Kd.R_mono (Kd.R_far (p := ⟨zF, 1, none⟩) (Kd.R_far (p := ⟨zF, 0, none⟩) (Kd.R_types zR.out zB.out (by decide)) (fun _ hk => hk.2) (.slice Ao32 t294.length co32)) (fun _ hk => hk.2) (.slice none 0 0)) (fun _ hk => trivial), by first | exact Kd.S_nil _ _ _ _ _ | exact Kd.N_nil _ _ _ _ _ | exact Kd.V_nil _ _ _ _ _ | exact Kd.Q_nil _ _ _ _ _ | exact Kd.R_nil _ _ _ _ _, by repeat (first | (with_reducible first | exact HB.out | apply zd | apply zb | apply zc | refine zh ?_ zE.out | refine zh ?_ zH.out) | exact HB.out)⟩
   ·rw [if_neg c10] at H
    exact absurd H (by simp)
  ·rw [if_neg c9] at H
   exact absurd H (by simp)
 ·replace c3 := Bool.eq_false_iff.mpr c3
  subst c3
  have H1 : (some (([] : List Int), ([] : List (S195)))) = some (r1, r2) := by rw [if_neg (show ¬ (false = true) by decide)] at H; exact H
  clear H
  have H := H1
  clear H1
  simp only [Option.some.injEq, Prod.mk.injEq] at H
  obtain ⟨rfl, rfl⟩ := H
  go_enter Tryd.func24, Tryd.ntmps24
  go_wp2_with (first | ((with_reducible refine zr (N := 1) rfl ?_); refine zu ?hg (N := 1) ?hd (cs := #[.int .i64 a0_0, .int .i64 a0_1]) (t := 49) ?hr ?_; (case hd => rfl); (case hg => rfl); (case hr => first | (go_simp; done) | (go_simp; rfl)); intro zC hg w34 hbox hb; have n0_ := Aside0.mk (zm (by repeat (first | (with_reducible first | exact HB.out | apply zd | apply zb | apply zc) | exact HB.out)) hb); have n1_ := Aside0.mk (hbox); have n2_ := Aside0.mk ((by rw [hg]; exact (zk (by repeat (first | (with_reducible first | exact HB.out | apply zd | apply zb | apply zc) | exact HB.out))) : w.heap.size ≤ zC)); have n3_ := Aside0.mk ((by rw [hg]; exact (zk (by repeat (first | (with_reducible first | exact HB.out | apply zd | apply zb | apply zc) | exact HB.out))) : w.heap.size ≤ zC)); clear HB; have HB := n0_; have zA := n1_; have GW269 := n2_; have zE := n3_; clear n0_ n1_ n2_ n3_; clear hb hbox hg) | ((with_reducible refine zr (N := 2) rfl ?_); refine zu ?hg (N := 2) ?hd (cs := #[.slice none 0 0, .slice none 0 0]) (t := 47) ?hr ?_; (case hd => rfl); (case hg => rfl); (case hr => first | (go_simp; done) | (go_simp; rfl)); intro zF hg w35 hbox hb; have n0_ := Aside0.mk (zo (g := zC) (o := .cells #[.int .i64 a0_0, .int .i64 a0_1] 49 (0, 0)) (by (with_reducible repeat (first | refine zj ?_ _ | refine zl ?_ | refine zi ?_ _)); exact zA.out) hb); have n1_ := Aside0.mk (zm (by repeat (first | (with_reducible first | exact HB.out | apply zd | apply zb | apply zc | refine zh ?_ zE.out) | exact HB.out)) hb); have n2_ := Aside0.mk (hbox); have n3_ := Aside0.mk ((by rw [hg]; exact (zk (by repeat (first | (with_reducible first | exact HB.out | apply zd | apply zb | apply zc | refine zh ?_ zE.out) | exact HB.out))) : w.heap.size ≤ zF)); have n4_ := Aside0.mk ((by rw [hg]; exact (zk (by repeat (first | (with_reducible first | exact HB.out | apply zd | apply zb | apply zc | refine zh ?_ zE.out) | exact HB.out))) : w.heap.size ≤ zF)); have n5_ := Aside0.mk ((by rw [hg]; exact Nat.ne_of_lt (zw (g := zC) (o := .cells #[.int .i64 a0_0, .int .i64 a0_1] 49 (0, 0)) (by (with_reducible repeat (first | refine zj ?_ _ | refine zl ?_ | refine zi ?_ _)); exact zA.out)) : zC ≠ zF)); have n6_ := Aside0.mk ((by rw [hg]; exact Nat.ne_of_gt (zw (g := zC) (o := .cells #[.int .i64 a0_0, .int .i64 a0_1] 49 (0, 0)) (by (with_reducible repeat (first | refine zj ?_ _ | refine zl ?_ | refine zi ?_ _)); exact zA.out)) : zF ≠ zC)); clear zA; clear HB; have zA := n0_; have HB := n1_; have zB := n2_; have GW270 := n3_; have zH := n4_; have zM := n5_; have zN := n6_; clear n0_ n1_ n2_ n3_ n4_ n5_ n6_; clear hb hbox hg; have zob := zM.out; have zpb := zN.out; have zeb : w35.cell? ⟨zC, 0, none⟩ = some (.int .i64 a0_0) := (ze zA.out 0).trans rfl; have zfb : w35.cell? ⟨zC, 1, none⟩ = some (.int .i64 a0_1) := (ze zA.out 1).trans rfl; have zgb := zg zA.out 0; have zhb := zg zA.out 1) | ((with_reducible refine zn (f := 73) rfl ?_); refine zx (some 7) rfl rfl Tryd.func73 (by kernel_rfl) rfl #[.agg #[.int .i64 a0_0, .int .i64 a0_1]] rfl (by (try simp only [List.map_toArray, List.map_cons, List.map_nil]); first | done | rfl | (simp only [List.length_drop, List.length_take]; rfl)) ?_; (with_reducible refine (spec_l5Good.calls a0_0 a0_1 false _ A2.out).mono ?_); rintro e w38 ⟨rfl, hb⟩; refine ⟨_, rfl, ?_⟩; have n0_ := Aside0.mk (zo (g := zC) (o := .cells #[.int .i64 a0_0, .int .i64 a0_1] 49 (0, 0)) (by (with_reducible repeat (first | refine zj ?_ _ | refine zl ?_ | refine zi ?_ _)); exact zA.out) hb); have n1_ := Aside0.mk (zo (g := zF) (o := .cells #[.slice none 0 0, .slice none 0 0] 47 (0, 0)) (by (with_reducible repeat (first | refine zj ?_ _ | refine zl ?_ | refine zi ?_ _)); exact zB.out) hb); have n2_ := Aside0.mk (zm (by repeat (first | (with_reducible first | exact HB.out | apply zd | apply zb | apply zc | refine zh ?_ zE.out | refine zh ?_ zH.out) | exact HB.out)) hb); clear zA; clear zB; clear HB; have zA := n0_; have zB := n1_; have HB := n2_; clear n0_ n1_ n2_; (try clear hb); (try clear hb2); (try clear hk); (try clear hi); have zib : w38.cell? ⟨zF, 0, none⟩ = some (.slice none 0 0) := (ze zB.out 0).trans rfl; have zjb : w38.cell? ⟨zF, 1, none⟩ = some (.slice none 0 0) := (ze zB.out 1).trans rfl; have zkb := zg zB.out 0; have zlb := zg zB.out 1))
  refine bodyPost_ret (results_cell_row rfl _ _ zF 47 #[.slice none 0 0, .slice none 0 0] (0, 0) _ rfl (by (with_reducible repeat (first | refine zj ?_ _ | refine zl ?_ | refine zi ?_ _)); refine zy (cs := #[.slice none 0 0, .slice none 0 0]) ?_ 1 _ rfl; (with_reducible repeat (first | refine zj ?_ _ | refine zl ?_ | refine zi ?_ _)); refine zy (cs := #[.slice none 0 0, .slice none 0 0]) ?_ 0 _ rfl; (with_reducible repeat (first | refine zj ?_ _ | refine zl ?_ | refine zi ?_ _)); exact zB.out) Tryd.underlying47 rfl (by kernel_rfl)) rfl ?_
  exact ⟨_, _, by first | rfl | (simp [errW_none, errW_some] <;> rfl) | (simp [*, errW_none, errW_some] <;> rfl), by first | exact Kd.R_nil _ _ _ _ _ | exact Kd.N_nil _ _ _ _ _ | exact Kd.V_nil _ _ _ _ _ | exact Kd.Q_nil _ _ _ _ _ | exact Kd.S_nil _ _ _ _ _, by first | exact Kd.S_nil _ _ _ _ _ | exact Kd.N_nil _ _ _ _ _ | exact Kd.V_nil _ _ _ _ _ | exact Kd.Q_nil _ _ _ _ _ | exact Kd.R_nil _ _ _ _ _, by repeat (first | (with_reducible first | exact HB.out | apply zd | apply zb | apply zc | refine zh ?_ zE.out | refine zh ?_ zH.out) | exact HB.out)⟩

def laws_toConfig.f (a0_0 : Int) (a0_1 : Int) : Option (Int × Int) := some (a0_0, a0_1)
set_option maxHeartbeats 8000000 in
set_option maxRecDepth 100000 in
theorem laws_toConfig.calls (a0_0 : Int) (a0_1 : Int) (r1 : Int) (r2 : Int) (w : World) (h : laws_toConfig.f a0_0 a0_1 = some (r1, r2)) :
  Calls Tryd.prog 25 #[.agg #[.int .i64 a0_0, .int .i64 a0_1]] w fun e w' => e = .returned (.agg #[.int .i64 r1, .int .i64 r2]) ∧ Below w.heap.size w w' := by
 have hu44 := Tryd.underlying44
 have hu49 := Tryd.underlying49
 have HB := Aside0.mk (Below.refl w.heap.size w)
 have H : (some (a0_0, a0_1)) = some (r1, r2) := h
 clear h
 simp only [Option.some.injEq, Prod.mk.injEq] at H
 obtain ⟨rfl, rfl⟩ := H
 go_enter Tryd.func25, Tryd.ntmps25
 go_wp2_with (first | ((with_reducible refine zr (N := 1) rfl ?_); refine zu ?hg (N := 1) ?hd (cs := #[.int .i64 a0_0, .int .i64 a0_1]) (t := 44) ?hr ?_; (case hd => rfl); (case hg => rfl); (case hr => first | (go_simp; done) | (go_simp; rfl)); intro zA hg w2 hbox hb; have n0_ := Aside0.mk (zm (by repeat (first | (with_reducible first | exact HB.out | apply zd | apply zb | apply zc) | exact HB.out)) hb); have n1_ := Aside0.mk (hbox); have n2_ := Aside0.mk ((by rw [hg]; exact (zk (by repeat (first | (with_reducible first | exact HB.out | apply zd | apply zb | apply zc) | exact HB.out))) : w.heap.size ≤ zA)); have n3_ := Aside0.mk ((by rw [hg]; exact (zk (by repeat (first | (with_reducible first | exact HB.out | apply zd | apply zb | apply zc) | exact HB.out))) : w.heap.size ≤ zA)); clear HB; have HB := n0_; have zB := n1_; have GW297 := n2_; have zF := n3_; clear n0_ n1_ n2_ n3_; clear hb hbox hg) | ((with_reducible refine zr (N := 2) rfl ?_); refine zu ?hg (N := 2) ?hd (cs := #[.int .i64 0, .int .i64 0]) (t := 49) ?hr ?_; (case hd => rfl); (case hg => rfl); (case hr => first | (go_simp; done) | (go_simp; rfl)); intro zC hg w3 hbox hb; have n0_ := Aside0.mk (zo (g := zA) (o := .cells #[.int .i64 a0_0, .int .i64 a0_1] 44 (0, 0)) (by (with_reducible repeat (first | refine zj ?_ _ | refine zl ?_ | refine zi ?_ _)); exact zB.out) hb); have n1_ := Aside0.mk (zm (by repeat (first | (with_reducible first | exact HB.out | apply zd | apply zb | apply zc | refine zh ?_ zF.out) | exact HB.out)) hb); have n2_ := Aside0.mk (hbox); have n3_ := Aside0.mk ((by rw [hg]; exact (zk (by repeat (first | (with_reducible first | exact HB.out | apply zd | apply zb | apply zc | refine zh ?_ zF.out) | exact HB.out))) : w.heap.size ≤ zC)); have n4_ := Aside0.mk ((by rw [hg]; exact (zk (by repeat (first | (with_reducible first | exact HB.out | apply zd | apply zb | apply zc | refine zh ?_ zF.out) | exact HB.out))) : w.heap.size ≤ zC)); have n5_ := Aside0.mk ((by rw [hg]; exact Nat.ne_of_lt (zw (g := zA) (o := .cells #[.int .i64 a0_0, .int .i64 a0_1] 44 (0, 0)) (by (with_reducible repeat (first | refine zj ?_ _ | refine zl ?_ | refine zi ?_ _)); exact zB.out)) : zA ≠ zC)); have n6_ := Aside0.mk ((by rw [hg]; exact Nat.ne_of_gt (zw (g := zA) (o := .cells #[.int .i64 a0_0, .int .i64 a0_1] 44 (0, 0)) (by (with_reducible repeat (first | refine zj ?_ _ | refine zl ?_ | refine zi ?_ _)); exact zB.out)) : zC ≠ zA)); clear zB; clear HB; have zB := n0_; have HB := n1_; have zD := n2_; have GW298 := n3_; have zH := n4_; have zJ := n5_; have zK := n6_; clear n0_ n1_ n2_ n3_ n4_ n5_ n6_; clear hb hbox hg) | ((with_reducible refine zr (N := 3) rfl ?_); refine zu ?hg (N := 3) ?hd (cs := #[.int .i64 0, .int .i64 0]) (t := 49) ?hr ?_; (case hd => rfl); (case hg => rfl); (case hr => first | (go_simp; done) | (go_simp; rfl)); intro zE hg w4 hbox hb; have n0_ := Aside0.mk (zo (g := zA) (o := .cells #[.int .i64 a0_0, .int .i64 a0_1] 44 (0, 0)) (by (with_reducible repeat (first | refine zj ?_ _ | refine zl ?_ | refine zi ?_ _)); exact zB.out) hb); have n1_ := Aside0.mk (zo (g := zC) (o := .cells #[.int .i64 0, .int .i64 0] 49 (0, 0)) (by (with_reducible repeat (first | refine zj ?_ _ | refine zl ?_ | refine zi ?_ _)); exact zD.out) hb); have n2_ := Aside0.mk (zm (by repeat (first | (with_reducible first | exact HB.out | apply zd | apply zb | apply zc | refine zh ?_ zF.out | refine zh ?_ zH.out) | exact HB.out)) hb); have n3_ := Aside0.mk (hbox); have n4_ := Aside0.mk ((by rw [hg]; exact (zk (by repeat (first | (with_reducible first | exact HB.out | apply zd | apply zb | apply zc | refine zh ?_ zF.out | refine zh ?_ zH.out) | exact HB.out))) : w.heap.size ≤ zE)); have n5_ := Aside0.mk ((by rw [hg]; exact (zk (by repeat (first | (with_reducible first | exact HB.out | apply zd | apply zb | apply zc | refine zh ?_ zF.out | refine zh ?_ zH.out) | exact HB.out))) : w.heap.size ≤ zE)); have n6_ := Aside0.mk ((by rw [hg]; exact Nat.ne_of_lt (zw (g := zA) (o := .cells #[.int .i64 a0_0, .int .i64 a0_1] 44 (0, 0)) (by (with_reducible repeat (first | refine zj ?_ _ | refine zl ?_ | refine zi ?_ _)); exact zB.out)) : zA ≠ zE)); have n7_ := Aside0.mk ((by rw [hg]; exact Nat.ne_of_gt (zw (g := zA) (o := .cells #[.int .i64 a0_0, .int .i64 a0_1] 44 (0, 0)) (by (with_reducible repeat (first | refine zj ?_ _ | refine zl ?_ | refine zi ?_ _)); exact zB.out)) : zE ≠ zA)); have n8_ := Aside0.mk ((by rw [hg]; exact Nat.ne_of_lt (zw (g := zC) (o := .cells #[.int .i64 0, .int .i64 0] 49 (0, 0)) (by (with_reducible repeat (first | refine zj ?_ _ | refine zl ?_ | refine zi ?_ _)); exact zD.out)) : zC ≠ zE)); have n9_ := Aside0.mk ((by rw [hg]; exact Nat.ne_of_gt (zw (g := zC) (o := .cells #[.int .i64 0, .int .i64 0] 49 (0, 0)) (by (with_reducible repeat (first | refine zj ?_ _ | refine zl ?_ | refine zi ?_ _)); exact zD.out)) : zE ≠ zC)); clear zB; clear zD; clear HB; have zB := n0_; have zD := n1_; have HB := n2_; have zI := n3_; have GW299 := n4_; have zO := n5_; have zL := n6_; have zM := n7_; have zG := n8_; have zN := n9_; clear n0_ n1_ n2_ n3_ n4_ n5_ n6_ n7_ n8_ n9_; clear hb hbox hg; have zbb := zJ.out; have zcb := zK.out; have zdb := zL.out; have zeb := zM.out; have zT : w4.cell? ⟨zA, 0, none⟩ = some (.int .i64 a0_0) := (ze zB.out 0).trans rfl; have zU : w4.cell? ⟨zA, 1, none⟩ = some (.int .i64 a0_1) := (ze zB.out 1).trans rfl; have zV := zg zB.out 0; have zW := zg zB.out 1; have zfb := zN.out; have zgb := zG.out; have zX : w4.cell? ⟨zE, 0, none⟩ = some (.int .i64 0) := (ze zI.out 0).trans rfl; have zY : w4.cell? ⟨zE, 1, none⟩ = some (.int .i64 0) := (ze zI.out 1).trans rfl; have zZ := zg zI.out 0; have zab := zg zI.out 1; have zP : w4.cell? ⟨zC, 0, none⟩ = some (.int .i64 0) := (ze zD.out 0).trans rfl; have zQ : w4.cell? ⟨zC, 1, none⟩ = some (.int .i64 0) := (ze zD.out 1).trans rfl; have zR := zg zD.out 0; have zS := zg zD.out 1))
 refine bodyPost_ret (results_cell_row rfl _ _ zC 49 #[.int .i64 a0_0, .int .i64 a0_1] (0, 0) _ rfl (by (with_reducible repeat (first | refine zj ?_ _ | refine zl ?_ | refine zi ?_ _)); refine zy (cs := #[.int .i64 a0_0, .int .i64 0]) ?_ 1 _ rfl; (with_reducible repeat (first | refine zj ?_ _ | refine zl ?_ | refine zi ?_ _)); refine zy (cs := #[.int .i64 0, .int .i64 0]) ?_ 0 _ rfl; (with_reducible repeat (first | refine zj ?_ _ | refine zl ?_ | refine zi ?_ _)); refine blk_far ?_ zG.out _; (with_reducible repeat (first | refine zj ?_ _ | refine zl ?_ | refine zi ?_ _)); refine blk_far ?_ zG.out _; (with_reducible repeat (first | refine zj ?_ _ | refine zl ?_ | refine zi ?_ _)); exact zD.out) Tryd.underlying49 rfl (by kernel_rfl)) rfl ?_
 exact ⟨by first | rfl | (simp [errW_none, errW_some] <;> rfl) | (simp [*, errW_none, errW_some] <;> rfl), by repeat (first | (with_reducible first | exact HB.out | apply zd | apply zb | apply zc | refine zh ?_ zF.out | refine zh ?_ zH.out | refine zh ?_ zO.out) | exact HB.out)⟩

def strings_Split.f (a0 : ByteArray) (a1 : ByteArray) : Option (List ByteArray) := if a0.size < 4294967281 ∧ 1 ≤ a1.size ∧ Go.Lib.countB a0 a1 ≤ 1000000 then some (Go.Lib.splitB a1 0 (Go.Lib.countB a0 a1) a0) else none
theorem split_len (sep : ByteArray) (h1 : 1 ≤ sep.size) : ∀ (n : Nat) (s : ByteArray), s.size ≤ n → (Go.Lib.splitB sep 0 (Go.Lib.countB s sep) s).length = Go.Lib.countB s sep + 1 := by
 intro n
 induction n with
 | zero =>
  intro s hs
  rcases Go.Lib.indexB_cases s sep with hix | ⟨i, hix, hroom⟩
  ·rw [Go.Lib.countB_miss s sep hix]; rfl
  ·omega
 | succ n ih =>
  intro s hs
  rcases Go.Lib.indexB_cases s sep with hix | ⟨i, hix, hroom⟩
  ·rw [Go.Lib.countB_miss s sep hix]; rfl
  ·rw [Go.Lib.countB_hit s sep i h1 hix, Nat.add_comm 1, Go.Lib.splitB_hit sep 0 _ s i hix, List.length_cons, ih _ (by simp only [ByteArray.size_extract]; omega)]
set_option maxRecDepth 100000 in
theorem strings_Split.calls (a0 : ByteArray) (a1 : ByteArray) (r : List ByteArray) (w : World) (h : strings_Split.f a0 a1 = some r) (hGMAX_ : Go.Proofs.YtjoafknckmoojaaDoorH.GFMAX w) :
  Calls Tryd.prog 125 #[.string a0, .string a1] w fun e w' => ∃ v0_ : Value, e = .returned (v0_) ∧ Kd.R Kd.string 9 w' w.heap.size (fun _ => True) v0_ r ∧ Below w.heap.size w w' := by
 unfold strings_Split.f at h
 by_cases hc : a0.size < 4294967281 ∧ 1 ≤ a1.size ∧ Go.Lib.countB a0 a1 ≤ 1000000
 ·rw [if_pos hc] at h
  obtain rfl := Option.some.inj h
  obtain ⟨m, hm⟩ := hGMAX_
  have hl := split_len a1 hc.2.1 a0.size a0 (Nat.le_refl _)
  refine (Go.Proofs.Tryd.strings_Split a0 a1 m w hc.1 hm hc.2.1).mono ?_
  rintro e w' ⟨rfl, rfl⟩
  refine ⟨_, rfl, ?_, zd (Below.refl _ _) _⟩
  rw [← hl]
  exact Go.Proofs.YtjoafknckmoojaaDoorH.R_of_arr Value.string (fun _ => rfl) (ok := fun _ => True) (blk_new w _) (Nat.le_refl _) trivial (by omega) (by omega)
 ·rw [if_neg hc] at h
  cases h

end Go.Proofs.YtjoafknckmoojaaDoor.GFnExactFormatDisk
