/- Written by give.py, a program of this session, that runs the kit's print and lays contracts proved by hand beside it. -/
import Derived.Test.YtejecjjimggjeaaGFnSyncx0
import Derived.Test.YtejecjjimggjeaaGFnSyncx4
import Derived.Test.YtejecjjimggjeaaGFnSyncx8
import Derived.Test.YtejecjjimggjeaaGFnSyncx9
import Derived.Test.YtejecjjimggjeaaGFnSyncx10
import Derived.Test.YtejecjjimggjeaaGFnSyncx11
import Derived.Test.YtejecjjimggjeaaGFnSyncx12
namespace Go.Proofs.Ytejecjjimggjeaa.GFnSync
open Go.RowKit Go.Proofs.YtejecjjimggjeaaW.PrintWords Go.Proofs.YtejecjjimggjeaaW.PrintLast Go.Proofs.YtejecjjimggjeaaW.PrintMore
attribute [local go_sem] max2_int min2_int max_two min_two max_three min_three max_four min_four
attribute [local go_sem high] Go.Proofs.YtejecjjimggjeaaH.str_leq Go.Proofs.YtejecjjimggjeaaH.str_geq Go.Proofs.YtejecjjimggjeaaH.str_gtr   -- for this text's walks alone
set_option linter.unusedVariables false
set_option linter.unusedSimpArgs false

theorem fldD0_ (A : Option Addr) (n c : Nat) (v : Value) (w : World) : (Instr.field 35 (.agg #[.slice A n c, v]) 0).run Try.prog w = .ok (.slice A n c) w := by
 simp [Instr.field, run_underlying Try.underlying35, asAgg, part, go_sem]
attribute [local go_sem high] fldD0_
theorem q_string {P : Program} {w : World} {base : Nat} {e' src dst e : TypeId} {ok : Nat → Prop} {v : Value} {xs : List Int} (hs : P.underlying src = some (.slice e)) (he : P.underlying e = some (.int .u8)) (hd : P.underlying dst = some .string) (h : Kd.Q (Kd.int .u8) e' w base ok v xs) : (convert src dst v).run P w = .ok (.string (strOfNums xs)) w := by
 obtain ⟨A, c, rfl, _⟩ := Kd.Q_slice h
 exact Kd.C_string hs he hd (Kd.Q_reads' h).2.2
def okByt (l : List Int) : Bool := l.all (fun x => decide (0 ≤ x ∧ x ≤ 255))
def disk_conv.f (k : Nat) (l0 : List Int) (l1 : List S45) (a : Int) (l2 : List Int) : Option (List Int × List S45) := if okByt l2 = true then impl_DiskWrite.f k l0 l1 a l2 else none
theorem disk_conv.mono : ∀ l0 l1 a l2 k, LeO (disk_conv.f k l0 l1 a l2) (disk_conv.f (k + 1) l0 l1 a l2) := by
 intro l0 l1 a l2 k
 exact LeO.ite (impl_DiskWrite.mono _ _ _ _ _) (LeO.none _)
theorem disk_conv.calls (W : World) (b : Nat) (hwb : W.heap.size = b) (k : Nat) (A0_0 : Option Addr) (c0_0 : Nat) (l0_0 : List Int) (A0_1 : Option Addr) (c0_1 : Nat) (l0_1 : List S45) (a1 : Int) (l2 : List Int) (r1 : List Int) (r2 : List S45) (hr0_0 : Kd.C (Kd.int .u8) W A0_0 l0_0.length l0_0) (hc0_0 : l0_0.length ≤ c0_0) (hr0_1 : Kd.C k45 W A0_1 l0_1.length l0_1) (hc0_1 : l0_1.length ≤ c0_1) (hm : (strOfNums l2).size ≤ 9223372036854775807) (h : disk_conv.f k l0_0 l0_1 a1 l2 = some (r1, r2)) :
  Calls Try.prog 16 #[.agg #[.slice A0_0 l0_0.length c0_0, .slice A0_1 l0_1.length c0_1], .int .i64 a1, .slice (some ⟨b, 0, none⟩) (strOfNums l2).size (grownCap W (strOfNums l2).size 0 5)] (Lib.bytesWorld W 5 (strOfNums l2)) fun e w' => ∃ v0_ v1_ : Value, e = .returned (.agg #[v0_, v1_]) ∧ Kd.R (Kd.int .u8) 5 w' W.heap.size (fun _ => True) v0_ r1 ∧ Kd.S k45 45 w' W.heap.size (fun k_ => some k_ ≠ (v0_ : Value).ownBlock) v1_ r2 ∧ Below W.heap.size W w' := by
 subst hwb
 unfold disk_conv.f at h
 split at h
 ·rename_i hok
  have he : bytesOf (strOfNums l2) = l2 := by
   unfold bytesOf
   rw [strOfNums_data, List.map_map]
   refine (List.map_congr_left (g := id) (fun x hx => ?_)).trans (List.map_id _)
   have hb := of_decide_eq_true (List.all_eq_true.mp hok x hx)
   show (((UInt8.ofNat x.toNat).toNat : Nat) : Int) = x
   rw [UInt8.toNat_ofNat']
   show (((x.toNat % 256 : Nat)) : Int) = x
   omega
  have hl : l2.length = (strOfNums l2).size := by rw [strOfNums_size]
  have h1 := Kd.C_of_reads (enc := Value.int .u8) (d := (0 : Int)) (h1 := fun _ => rfl) (bytes_reads W 5 (strOfNums l2) hm)
  rw [he] at h1
  have hb := bytes_below (Below.refl W.heap.size W) (Nat.le_refl _) 5 (strOfNums l2)
  have := impl_DiskWrite.calls k A0_0 c0_0 l0_0 A0_1 c0_1 l0_1 a1 (some ⟨W.heap.size, 0, none⟩) (grownCap W (strOfNums l2).size 0 5) l2 r1 r2 (Lib.bytesWorld W 5 (strOfNums l2)) (Kd.C_below hr0_0 hb) hc0_0 (Kd.C_below hr0_1 hb) hc0_1 (by rw [hl]; exact h1) (by rw [hl]; exact grownCap_ge _ _ _ _) h
  rw [hl] at this
  refine this.mono ?_
  rintro e w' ⟨v0, v1, he, zG, zH, hb2⟩
  exact ⟨v0, v1, he, Kd.R_lower zG (by rw [Lib.bytesWorld_size]; omega), Kd.S_lower zH (by rw [Lib.bytesWorld_size]; omega), zk hb hb2⟩
 ·cases h
mutual
def laws_FnSync.j0 : Nat → List Int → List Int → Bool → Option (Bool)
 | 0, _, _, _ => none
 | k + 1, x0, x1, x22 => if x22 = true then (some true) else ((spec_DrawDiskWrite.f k x0).bind fun bt377 => ((disk_conv.f k bt377.1 bt377.2.1 bt377.2.2.1 bt377.2.2.2).bind fun bt388 => ((spec_DrawDiskWrite.f k x0).bind fun bt395 => ((spec_DiskWrite.f k bt395.1 bt395.2.1 bt395.2.2.1 bt395.2.2.2).bind fun bt405 => (if (bt405.1.length : Int) = 0 then (if (bt388.1.length : Int) = 0 then (if (bt388.2.length : Int) = 0 then ((impl_DiskRead.f k bt388.1 bt388.2 bt395.2.2.1).bind fun t411 => (some ((t411.length : Int) == 0))) else none) else none) else ((impl_DiskSync.f k bt388.1 bt388.2).bind fun bt414 => ((laws_lwChoices.f k x1 0).bind fun t420 => ((impl_DiskCrash.f k bt414.1 bt414.2 t420).bind fun bt423 => ((impl_DiskRead.f k bt423.1 bt423.2 bt395.2.2.1).bind fun t430 => (if (strOfNums t430).toList = (strOfNums bt395.2.2.2).toList then ((impl_DiskRead.f k bt388.1 bt388.2 bt395.2.2.1).bind fun t433 => (laws_FnSync.j1 k x1 bt395.2.2.1 ((strOfNums t433).toList != (strOfNums bt395.2.2.2).toList) bt395.1 bt395.2.1 bt388.1 bt388.2)) else (laws_FnSync.j1 k x1 bt395.2.2.1 true bt395.1 bt395.2.1 bt388.1 bt388.2)))))))))))
def laws_FnSync.j1 : Nat → List Int → Int → Bool → List Int → List (S45) → List Int → List (S45) → Option (Bool)
 | 0, _, _, _, _, _, _, _ => none
 | k + 1, x1, x6, x85, x388000, x388001, x395000, x395001 => if x85 = true then none else ((laws_lwChoices.f k x1 3).bind fun t436 => ((impl_DiskCrash.f k x395000 x395001 t436).bind fun bt439 => (laws_FnSync.l0 k x6 (wrap64 ((x388000.length : Int) / 64)) 0 x388000 x388001 bt439.1 bt439.2)))
def laws_FnSync.l0 : Nat → Int → Int → Int → List Int → List (S45) → List Int → List (S45) → Option (Bool)
 | 0, _, _, _, _, _, _, _ => none
 | k + 1, x6, x11, x12, x388000, x388001, x446000, x446001 => if x12 < x11 then (laws_FnSync.l1 k x6 x11 x12 (x12 != x6) 0 x388000 x388001 x446000 x446001) else (if (x446001.length : Int) = 0 then (some ((x446000.length : Int) == (x388000.length : Int))) else none)
def laws_FnSync.l1 : Nat → Int → Int → Int → Bool → Int → List Int → List (S45) → List Int → List (S45) → Option (Bool)
 | 0, _, _, _, _, _, _, _, _, _ => none
 | k + 1, x6, x11, x12, x13, x14, x388000, x388001, x446000, x446001 => if x14 < (x388001.length : Int) then (if 0 ≤ x14 then (if ((rd_T45 x388001 x14).f0) = x12 then (laws_FnSync.l1 k x6 x11 x12 false (wrap64 (x14 + 1)) x388000 x388001 x446000 x446001) else (laws_FnSync.l1 k x6 x11 x12 x13 (wrap64 (x14 + 1)) x388000 x388001 x446000 x446001)) else (none)) else (if x13 = true then ((impl_DiskRead.f k x446000 x446001 x12).bind fun t447 => ((spec_DiskRead.f k x388000 x388001 x12).bind fun t450 => (if (strOfNums t447).toList = (strOfNums t450).toList then (laws_FnSync.l0 k x6 x11 (wrap64 (x12 + 1)) x388000 x388001 x446000 x446001) else none))) else (laws_FnSync.l0 k x6 x11 (wrap64 (x12 + 1)) x388000 x388001 x446000 x446001))
end
def laws_FnSync.f (k : Nat) (l0 : List Int) (l1 : List Int) : Option (Bool) := if (l0.length : Int) > 1048576 then (laws_FnSync.j0 k l0 l1 true) else (laws_FnSync.j0 k l0 l1 (decide ((l1.length : Int) > 1048576)))
theorem laws_FnSync.mono_l : ∀ k, (∀ y0 y1 y2, LeO (laws_FnSync.j0 k y0 y1 y2) (laws_FnSync.j0 (k + 1) y0 y1 y2)) ∧ (∀ y0 y1 y2 y3 y4 y5 y6, LeO (laws_FnSync.j1 k y0 y1 y2 y3 y4 y5 y6) (laws_FnSync.j1 (k + 1) y0 y1 y2 y3 y4 y5 y6)) ∧ (∀ y0 y1 y2 y3 y4 y5 y6, LeO (laws_FnSync.l0 k y0 y1 y2 y3 y4 y5 y6) (laws_FnSync.l0 (k + 1) y0 y1 y2 y3 y4 y5 y6)) ∧ (∀ y0 y1 y2 y3 y4 y5 y6 y7 y8, LeO (laws_FnSync.l1 k y0 y1 y2 y3 y4 y5 y6 y7 y8) (laws_FnSync.l1 (k + 1) y0 y1 y2 y3 y4 y5 y6 y7 y8))
 | 0 => ⟨fun _ _ _ r h => by simp [laws_FnSync.j0] at h, fun _ _ _ _ _ _ _ r h => by simp [laws_FnSync.j1] at h, fun _ _ _ _ _ _ _ r h => by simp [laws_FnSync.l0] at h, fun _ _ _ _ _ _ _ _ _ r h => by simp [laws_FnSync.l1] at h⟩
 | k + 1 => by
  obtain ⟨ih0, ih1, ih2, ih3⟩ := laws_FnSync.mono_l k
  refine ⟨?_, ?_, ?_, ?_⟩
  ·intro y0 y1 y2
   unfold laws_FnSync.j0
   repeat' first
   | (with_reducible exact ih0 _ _ _)
   | (with_reducible exact ih1 _ _ _ _ _ _ _)
   | (with_reducible exact ih2 _ _ _ _ _ _ _)
   | (with_reducible exact ih3 _ _ _ _ _ _ _ _ _)
   | (with_reducible exact impl_DiskCrash.mono _ _ _ _)
   | (with_reducible exact impl_DiskRead.mono _ _ _ _)
   | (with_reducible exact impl_DiskSync.mono _ _ _)
   | (with_reducible exact disk_conv.mono _ _ _ _ _)
   | (with_reducible exact laws_lwChoices.mono _ _ _)
   | (with_reducible exact spec_DiskRead.mono _ _ _ _)
   | (with_reducible exact spec_DiskWrite.mono _ _ _ _ _)
   | (with_reducible exact spec_DrawDiskWrite.mono _ _)
   | (with_reducible exact LeO.refl _)
   | (with_reducible exact LeO.none _)
   | (with_reducible refine LeO.ite ?_ ?_)
   | (with_reducible refine LeO.bind ?_ (fun _ => ?_))
   | exact ih0 _ _ _
   | exact ih1 _ _ _ _ _ _ _
   | exact ih2 _ _ _ _ _ _ _
   | exact ih3 _ _ _ _ _ _ _ _ _
   | exact impl_DiskCrash.mono _ _ _ _
   | exact impl_DiskRead.mono _ _ _ _
   | exact impl_DiskSync.mono _ _ _
   | exact disk_conv.mono _ _ _ _ _
   | exact laws_lwChoices.mono _ _ _
   | exact spec_DiskRead.mono _ _ _ _
   | exact spec_DiskWrite.mono _ _ _ _ _
   | exact spec_DrawDiskWrite.mono _ _
   | exact LeO.none _
   | refine LeO.ite ?_ ?_
   | refine LeO.bind ?_ (fun _ => ?_)
  ·intro y0 y1 y2 y3 y4 y5 y6
   unfold laws_FnSync.j1
   repeat' first
   | (with_reducible exact ih0 _ _ _)
   | (with_reducible exact ih1 _ _ _ _ _ _ _)
   | (with_reducible exact ih2 _ _ _ _ _ _ _)
   | (with_reducible exact ih3 _ _ _ _ _ _ _ _ _)
   | (with_reducible exact impl_DiskCrash.mono _ _ _ _)
   | (with_reducible exact impl_DiskRead.mono _ _ _ _)
   | (with_reducible exact impl_DiskSync.mono _ _ _)
   | (with_reducible exact disk_conv.mono _ _ _ _ _)
   | (with_reducible exact laws_lwChoices.mono _ _ _)
   | (with_reducible exact spec_DiskRead.mono _ _ _ _)
   | (with_reducible exact spec_DiskWrite.mono _ _ _ _ _)
   | (with_reducible exact spec_DrawDiskWrite.mono _ _)
   | (with_reducible exact LeO.refl _)
   | (with_reducible exact LeO.none _)
   | (with_reducible refine LeO.ite ?_ ?_)
   | (with_reducible refine LeO.bind ?_ (fun _ => ?_))
   | exact ih0 _ _ _
   | exact ih1 _ _ _ _ _ _ _
   | exact ih2 _ _ _ _ _ _ _
   | exact ih3 _ _ _ _ _ _ _ _ _
   | exact impl_DiskCrash.mono _ _ _ _
   | exact impl_DiskRead.mono _ _ _ _
   | exact impl_DiskSync.mono _ _ _
   | exact disk_conv.mono _ _ _ _ _
   | exact laws_lwChoices.mono _ _ _
   | exact spec_DiskRead.mono _ _ _ _
   | exact spec_DiskWrite.mono _ _ _ _ _
   | exact spec_DrawDiskWrite.mono _ _
   | exact LeO.none _
   | refine LeO.ite ?_ ?_
   | refine LeO.bind ?_ (fun _ => ?_)
  ·intro y0 y1 y2 y3 y4 y5 y6
   unfold laws_FnSync.l0
   repeat' first
   | (with_reducible exact ih0 _ _ _)
   | (with_reducible exact ih1 _ _ _ _ _ _ _)
   | (with_reducible exact ih2 _ _ _ _ _ _ _)
   | (with_reducible exact ih3 _ _ _ _ _ _ _ _ _)
   | (with_reducible exact impl_DiskCrash.mono _ _ _ _)
   | (with_reducible exact impl_DiskRead.mono _ _ _ _)
   | (with_reducible exact impl_DiskSync.mono _ _ _)
   | (with_reducible exact disk_conv.mono _ _ _ _ _)
   | (with_reducible exact laws_lwChoices.mono _ _ _)
   | (with_reducible exact spec_DiskRead.mono _ _ _ _)
   | (with_reducible exact spec_DiskWrite.mono _ _ _ _ _)
   | (with_reducible exact spec_DrawDiskWrite.mono _ _)
   | (with_reducible exact LeO.refl _)
   | (with_reducible exact LeO.none _)
   | (with_reducible refine LeO.ite ?_ ?_)
   | (with_reducible refine LeO.bind ?_ (fun _ => ?_))
   | exact ih0 _ _ _
   | exact ih1 _ _ _ _ _ _ _
   | exact ih2 _ _ _ _ _ _ _
   | exact ih3 _ _ _ _ _ _ _ _ _
   | exact impl_DiskCrash.mono _ _ _ _
   | exact impl_DiskRead.mono _ _ _ _
   | exact impl_DiskSync.mono _ _ _
   | exact disk_conv.mono _ _ _ _ _
   | exact laws_lwChoices.mono _ _ _
   | exact spec_DiskRead.mono _ _ _ _
   | exact spec_DiskWrite.mono _ _ _ _ _
   | exact spec_DrawDiskWrite.mono _ _
   | exact LeO.none _
   | refine LeO.ite ?_ ?_
   | refine LeO.bind ?_ (fun _ => ?_)
  ·intro y0 y1 y2 y3 y4 y5 y6 y7 y8
   unfold laws_FnSync.l1
   repeat' first
   | (with_reducible exact ih0 _ _ _)
   | (with_reducible exact ih1 _ _ _ _ _ _ _)
   | (with_reducible exact ih2 _ _ _ _ _ _ _)
   | (with_reducible exact ih3 _ _ _ _ _ _ _ _ _)
   | (with_reducible exact impl_DiskCrash.mono _ _ _ _)
   | (with_reducible exact impl_DiskRead.mono _ _ _ _)
   | (with_reducible exact impl_DiskSync.mono _ _ _)
   | (with_reducible exact disk_conv.mono _ _ _ _ _)
   | (with_reducible exact laws_lwChoices.mono _ _ _)
   | (with_reducible exact spec_DiskRead.mono _ _ _ _)
   | (with_reducible exact spec_DiskWrite.mono _ _ _ _ _)
   | (with_reducible exact spec_DrawDiskWrite.mono _ _)
   | (with_reducible exact LeO.refl _)
   | (with_reducible exact LeO.none _)
   | (with_reducible refine LeO.ite ?_ ?_)
   | (with_reducible refine LeO.bind ?_ (fun _ => ?_))
   | exact ih0 _ _ _
   | exact ih1 _ _ _ _ _ _ _
   | exact ih2 _ _ _ _ _ _ _
   | exact ih3 _ _ _ _ _ _ _ _ _
   | exact impl_DiskCrash.mono _ _ _ _
   | exact impl_DiskRead.mono _ _ _ _
   | exact impl_DiskSync.mono _ _ _
   | exact disk_conv.mono _ _ _ _ _
   | exact laws_lwChoices.mono _ _ _
   | exact spec_DiskRead.mono _ _ _ _
   | exact spec_DiskWrite.mono _ _ _ _ _
   | exact spec_DrawDiskWrite.mono _ _
   | exact LeO.none _
   | refine LeO.ite ?_ ?_
   | refine LeO.bind ?_ (fun _ => ?_)
theorem laws_FnSync.mono : ∀ a0 a1 k, LeO (laws_FnSync.f k a0 a1) (laws_FnSync.f (k + 1) a0 a1) := by
 intro a0 a1 k
 obtain ⟨ih0, ih1, ih2, ih3⟩ := laws_FnSync.mono_l k
 unfold laws_FnSync.f
 repeat' first
   | (with_reducible exact ih0 _ _ _)
   | (with_reducible exact ih1 _ _ _ _ _ _ _)
   | (with_reducible exact ih2 _ _ _ _ _ _ _)
   | (with_reducible exact ih3 _ _ _ _ _ _ _ _ _)
   | (with_reducible exact impl_DiskCrash.mono _ _ _ _)
   | (with_reducible exact impl_DiskRead.mono _ _ _ _)
   | (with_reducible exact impl_DiskSync.mono _ _ _)
   | (with_reducible exact disk_conv.mono _ _ _ _ _)
   | (with_reducible exact laws_lwChoices.mono _ _ _)
   | (with_reducible exact spec_DiskRead.mono _ _ _ _)
   | (with_reducible exact spec_DiskWrite.mono _ _ _ _ _)
   | (with_reducible exact spec_DrawDiskWrite.mono _ _)
   | (with_reducible exact LeO.refl _)
   | (with_reducible exact LeO.none _)
   | (with_reducible refine LeO.ite ?_ ?_)
   | (with_reducible refine LeO.bind ?_ (fun _ => ?_))
   | exact ih0 _ _ _
   | exact ih1 _ _ _ _ _ _ _
   | exact ih2 _ _ _ _ _ _ _
   | exact ih3 _ _ _ _ _ _ _ _ _
   | exact impl_DiskCrash.mono _ _ _ _
   | exact impl_DiskRead.mono _ _ _ _
   | exact impl_DiskSync.mono _ _ _
   | exact disk_conv.mono _ _ _ _ _
   | exact laws_lwChoices.mono _ _ _
   | exact spec_DiskRead.mono _ _ _ _
   | exact spec_DiskWrite.mono _ _ _ _ _
   | exact spec_DrawDiskWrite.mono _ _
   | exact LeO.none _
   | refine LeO.ite ?_ ?_
   | refine LeO.bind ?_ (fun _ => ?_)
def laws_FnSync.T9 : Bool × List (List Nat × List Nat) := (true, [([], []), ([], []), ([0, 1], [0, 1]), ([2], [2]), ([], []), ([4], [4]), ([3, 5], [3, 5]), ([6, 2], [6]), ([7], [7]), ([7], [7]), ([8, 9, 7, 7], [7, 8, 9]), ([10, 7], [7, 10]), ([7], [7]), ([12, 7], [7, 12]), ([11, 13, 7], [7, 11, 13]), ([7, 14], [7, 14])])
def laws_FnSync.B9 : List Nat := [0, 0, 3, 7, 0, 16, 63, 127, 255, 255, 1023, 2047, 255, 4351, 16383, 32767]
theorem laws_FnSync.tab9 : rtab .any (opsOf Try.f4 9) = laws_FnSync.T9 := by kernel_rfl
theorem laws_FnSync.bits9 : waitsOk laws_FnSync.T9.2 laws_FnSync.B9 = true := by kernel_rfl
def laws_FnSync.T22 : Bool × List (List Nat × List Nat) := (true, [([], []), ([0], [0]), ([1], [1]), ([1], [1]), ([2, 3, 1, 1], [1, 2, 3]), ([4, 1], [1, 4]), ([1], [1]), ([1], [1]), ([6, 7, 4, 1], [1, 6, 7]), ([8, 1], [1, 8]), ([5, 9, 1], [1, 5, 9]), ([1, 10], [1, 10])])
def laws_FnSync.B22 : List Nat := [0, 1, 3, 3, 15, 31, 3, 3, 223, 479, 1023, 2047]
theorem laws_FnSync.tab22 : rtab .any (opsOf Try.f4 22) = laws_FnSync.T22 := by kernel_rfl
theorem laws_FnSync.bits22 : waitsOk laws_FnSync.T22.2 laws_FnSync.B22 = true := by kernel_rfl
set_option maxHeartbeats 8000000 in
set_option maxRecDepth 100000 in
theorem laws_FnSync.calls (k : Nat) (A0 : Option Addr) (c0 : Nat) (l0 : List Int) (A1 : Option Addr) (c1 : Nat) (l1 : List Int) (r : Bool) (w : World) (hr0 : Kd.C (Kd.int .u8) w A0 l0.length l0) (hc0 : l0.length ≤ c0) (hr1 : Kd.C (Kd.int .u8) w A1 l1.length l1) (hc1 : l1.length ≤ c1) (h : laws_FnSync.f k l0 l1 = some r) :
  Calls Try.prog 4 #[.slice A0 l0.length c0, .slice A1 l1.length c1] w fun e w' => e = .returned (.bool r) ∧ Below w.heap.size w w' := by
 have hu35 := Try.underlying35
 have HR0 := Aside0.mk hr0
 have HC0 := Aside0.mk hc0
 clear hr0 hc0
 have HR1 := Aside0.mk hr1
 have HC1 := Aside0.mk hc1
 clear hr1 hc1
 have HB := Aside0.mk (Below.refl w.heap.size w)
 have H : (if (l0.length : Int) > 1048576 then (laws_FnSync.j0 k l0 l1 true) else (laws_FnSync.j0 k l0 l1 (decide ((l1.length : Int) > 1048576)))) = some r := h
 clear h
 have HC3 := Aside0.mk H
 clear H
 go_enter Try.func4, Try.ntmps4
 go_upto_region 1 with (fail)
 go_cut [22] (fun v22 wc => ∃ (kq : Nat) (x22_2 : Bool), v22 = .bool x22_2 ∧ Aside0 (laws_FnSync.j0 kq l0 l1 x22_2 = some r) ∧ Aside0 (kq ≤ k) ∧ Aside0 (Below w.heap.size w wc))
 case first =>
  have H := HC3.out
  clear HC3
  by_cases c4 : (l0.length : Int) > 1048576
  ·rw [if_pos c4] at H
   have c4b0 : decide (1048576 < (l0.length : Int)) = true := decide_eq_true c4
   have c4b1 : decide (1048576 < l0.length) = true := decide_eq_true (by omega)
   clear c4
   (first | rw [c4b0] | (simp only [zp, zq]; rw [c4b0]) | skip)
   have H' := Aside0.mk H
   clear H
   go_wp2
   go_meet
   case rel => exact ⟨_, (true), (by first | rfl | (simp; done) | (simp [*]; done)), H', ⟨by first | omega | exact Nat.le_refl _⟩, ⟨by repeat (first | (with_reducible first | exact HB.out | apply zf | apply ze | apply zi) | exact HB.out)⟩⟩
  ·rw [if_neg c4] at H
   have c4b0 : decide (1048576 < (l0.length : Int)) = false := decide_eq_false c4
   have c4b1 : decide (1048576 < l0.length) = false := decide_eq_false (by omega)
   clear c4
   (first | rw [c4b0] | (simp only [zp, zq]; rw [c4b0]) | skip)
   have H' := Aside0.mk H
   clear H
   go_wp2
   go_meet
   case rel => exact ⟨_, (decide ((l1.length : Int) > 1048576)), (by first | rfl | (simp; done) | (simp [*]; done)), H', ⟨by first | omega | exact Nat.le_refl _⟩, ⟨by repeat (first | (with_reducible first | exact HB.out | apply zf | apply ze | apply zi) | exact HB.out)⟩⟩
 case rest =>
  clear HC3
  try clear c1
  try clear p2
  try clear c4
  try clear c4b0
  try clear c4b1
  obtain ⟨kq, x22_2, rfl, HA, HJ2, HB⟩ := hcut
  cases kq with
  | zero => exact absurd HA.out (by simp [laws_FnSync.j0])
  | succ kj2 =>
   have H := HA.out
   clear HA
   simp only [laws_FnSync.j0] at H
   by_cases c5 : x22_2 = true
   ·subst c5
    have H1 : (some true) = some r := by rw [if_pos rfl] at H; exact H
    clear H
    have H := H1
    clear H1
    obtain rfl := Option.some.inj H
    go_wp2
    go_ret
    exact ⟨by first | rfl | (simp [errW_none, errW_some] <;> rfl) | (simp [*, errW_none, errW_some] <;> rfl), by repeat (first | (with_reducible first | exact HB.out | apply zf | apply ze | apply zi) | exact HB.out)⟩
   ·replace c5 := Bool.eq_false_iff.mpr c5
    subst c5
    have H1 : ((spec_DrawDiskWrite.f kj2 l0).bind fun bt377 => ((disk_conv.f kj2 bt377.1 bt377.2.1 bt377.2.2.1 bt377.2.2.2).bind fun bt388 => ((spec_DrawDiskWrite.f kj2 l0).bind fun bt395 => ((spec_DiskWrite.f kj2 bt395.1 bt395.2.1 bt395.2.2.1 bt395.2.2.2).bind fun bt405 => (if (bt405.1.length : Int) = 0 then (if (bt388.1.length : Int) = 0 then (if (bt388.2.length : Int) = 0 then ((impl_DiskRead.f kj2 bt388.1 bt388.2 bt395.2.2.1).bind fun t411 => (some ((t411.length : Int) == 0))) else none) else none) else ((impl_DiskSync.f kj2 bt388.1 bt388.2).bind fun bt414 => ((laws_lwChoices.f kj2 l1 0).bind fun t420 => ((impl_DiskCrash.f kj2 bt414.1 bt414.2 t420).bind fun bt423 => ((impl_DiskRead.f kj2 bt423.1 bt423.2 bt395.2.2.1).bind fun t430 => (if (strOfNums t430).toList = (strOfNums bt395.2.2.2).toList then ((impl_DiskRead.f kj2 bt388.1 bt388.2 bt395.2.2.1).bind fun t433 => (laws_FnSync.j1 kj2 l1 bt395.2.2.1 ((strOfNums t433).toList != (strOfNums bt395.2.2.2).toList) bt395.1 bt395.2.1 bt388.1 bt388.2)) else (laws_FnSync.j1 kj2 l1 bt395.2.2.1 true bt395.1 bt395.2.1 bt388.1 bt388.2))))))))))) = some r := by rw [if_neg (show ¬ (false = true) by decide)] at H; exact H
    clear H
    have H := H1
    clear H1
    replace H := Option.bind_eq_some_iff.mp H
    obtain ⟨⟨t377, t380, t383, t384⟩, A60, H⟩ := H
    replace H : ((disk_conv.f kj2 t377 t380 t383 t384).bind fun bt388 => ((spec_DrawDiskWrite.f kj2 l0).bind fun bt395 => ((spec_DiskWrite.f kj2 bt395.1 bt395.2.1 bt395.2.2.1 bt395.2.2.2).bind fun bt405 => (if (bt405.1.length : Int) = 0 then (if (bt388.1.length : Int) = 0 then (if (bt388.2.length : Int) = 0 then ((impl_DiskRead.f kj2 bt388.1 bt388.2 bt395.2.2.1).bind fun t411 => (some ((t411.length : Int) == 0))) else none) else none) else ((impl_DiskSync.f kj2 bt388.1 bt388.2).bind fun bt414 => ((laws_lwChoices.f kj2 l1 0).bind fun t420 => ((impl_DiskCrash.f kj2 bt414.1 bt414.2 t420).bind fun bt423 => ((impl_DiskRead.f kj2 bt423.1 bt423.2 bt395.2.2.1).bind fun t430 => (if (strOfNums t430).toList = (strOfNums bt395.2.2.2).toList then ((impl_DiskRead.f kj2 bt388.1 bt388.2 bt395.2.2.1).bind fun t433 => (laws_FnSync.j1 kj2 l1 bt395.2.2.1 ((strOfNums t433).toList != (strOfNums bt395.2.2.2).toList) bt395.1 bt395.2.1 bt388.1 bt388.2)) else (laws_FnSync.j1 kj2 l1 bt395.2.2.1 true bt395.1 bt395.2.1 bt388.1 bt388.2)))))))))) = some r := H
    have A6 := Aside0.mk A60
    clear A60
    replace H := Option.bind_eq_some_iff.mp H
    obtain ⟨⟨t388, t391⟩, A70, H⟩ := H
    replace H : ((spec_DrawDiskWrite.f kj2 l0).bind fun bt395 => ((spec_DiskWrite.f kj2 bt395.1 bt395.2.1 bt395.2.2.1 bt395.2.2.2).bind fun bt405 => (if (bt405.1.length : Int) = 0 then (if (t388.length : Int) = 0 then (if (t391.length : Int) = 0 then ((impl_DiskRead.f kj2 t388 t391 bt395.2.2.1).bind fun t411 => (some ((t411.length : Int) == 0))) else none) else none) else ((impl_DiskSync.f kj2 t388 t391).bind fun bt414 => ((laws_lwChoices.f kj2 l1 0).bind fun t420 => ((impl_DiskCrash.f kj2 bt414.1 bt414.2 t420).bind fun bt423 => ((impl_DiskRead.f kj2 bt423.1 bt423.2 bt395.2.2.1).bind fun t430 => (if (strOfNums t430).toList = (strOfNums bt395.2.2.2).toList then ((impl_DiskRead.f kj2 t388 t391 bt395.2.2.1).bind fun t433 => (laws_FnSync.j1 kj2 l1 bt395.2.2.1 ((strOfNums t433).toList != (strOfNums bt395.2.2.2).toList) bt395.1 bt395.2.1 t388 t391)) else (laws_FnSync.j1 kj2 l1 bt395.2.2.1 true bt395.1 bt395.2.1 t388 t391))))))))) = some r := H
    have A7 := Aside0.mk A70
    clear A70
    replace H := Option.bind_eq_some_iff.mp H
    obtain ⟨⟨t395, t398, t401, t402⟩, A80, H⟩ := H
    replace H : ((spec_DiskWrite.f kj2 t395 t398 t401 t402).bind fun bt405 => (if (bt405.1.length : Int) = 0 then (if (t388.length : Int) = 0 then (if (t391.length : Int) = 0 then ((impl_DiskRead.f kj2 t388 t391 t401).bind fun t411 => (some ((t411.length : Int) == 0))) else none) else none) else ((impl_DiskSync.f kj2 t388 t391).bind fun bt414 => ((laws_lwChoices.f kj2 l1 0).bind fun t420 => ((impl_DiskCrash.f kj2 bt414.1 bt414.2 t420).bind fun bt423 => ((impl_DiskRead.f kj2 bt423.1 bt423.2 t401).bind fun t430 => (if (strOfNums t430).toList = (strOfNums t402).toList then ((impl_DiskRead.f kj2 t388 t391 t401).bind fun t433 => (laws_FnSync.j1 kj2 l1 t401 ((strOfNums t433).toList != (strOfNums t402).toList) t395 t398 t388 t391)) else (laws_FnSync.j1 kj2 l1 t401 true t395 t398 t388 t391)))))))) = some r := H
    have A8 := Aside0.mk A80
    clear A80
    replace H := Option.bind_eq_some_iff.mp H
    obtain ⟨⟨t405, t408⟩, A90, H⟩ := H
    replace H : (if (t405.length : Int) = 0 then (if (t388.length : Int) = 0 then (if (t391.length : Int) = 0 then ((impl_DiskRead.f kj2 t388 t391 t401).bind fun t411 => (some ((t411.length : Int) == 0))) else none) else none) else ((impl_DiskSync.f kj2 t388 t391).bind fun bt414 => ((laws_lwChoices.f kj2 l1 0).bind fun t420 => ((impl_DiskCrash.f kj2 bt414.1 bt414.2 t420).bind fun bt423 => ((impl_DiskRead.f kj2 bt423.1 bt423.2 t401).bind fun t430 => (if (strOfNums t430).toList = (strOfNums t402).toList then ((impl_DiskRead.f kj2 t388 t391 t401).bind fun t433 => (laws_FnSync.j1 kj2 l1 t401 ((strOfNums t433).toList != (strOfNums t402).toList) t395 t398 t388 t391)) else (laws_FnSync.j1 kj2 l1 t401 true t395 t398 t388 t391))))))) = some r := H
    have A9 := Aside0.mk A90
    clear A90
    have hcB_ : ∀ (y : ByteArray) (W : World), (convert 9 22 (.string y)).run Try.prog W = .ok (.slice (some ⟨W.heap.size, 0, none⟩) y.size (grownCap W y.size 0 5)) (Lib.bytesWorld W 5 y) := fun y W => print_bytes 9 22 5 Try.underlying9 Try.underlying22 Try.underlying5 y W
    go_upto_if 47 with (first | ((with_reducible refine zo (f := 15) rfl ?_); refine zC (some 25) rfl rfl Try.func15 (by kernel_rfl) rfl #[.slice A0 l0.length c0] rfl (by (try simp only [List.map_toArray, List.map_cons, List.map_nil]); first | done | rfl) ?_; (with_reducible refine (spec_DrawDiskWrite.calls kj2 _ _ l0 t377 t380 t383 t384 _ ?side1 ?side2 A6.out).mono ?_); (case side1 => repeat (first | exact (Kd.C_below HR0.out HB.out) | (with_reducible refine Kd.C_alloc ?_ _) | (with_reducible refine Kd.C_drewN ?_ _) | (with_reducible refine Kd.C_drew ?_))); (case side2 => exact HC0.out); rintro e w83 ⟨v378, v381, v385, rfl, zQ, zqb, zIb, hb⟩; refine ⟨_, rfl, ?_⟩; have n0_ := Aside0.mk (Kd.R_lower zQ (zm (by exact bl HB.out))); have n1_ := Aside0.mk (Kd.S_lower zqb (zm (by exact bl HB.out))); have n2_ := Aside0.mk (Kd.Q_lower zIb (zm (by exact bl HB.out))); have n3_ := Aside0.mk (zk (by exact bl HB.out) hb); clear HB; have zX := n0_; have zdb := n1_; have zV := n2_; have HB := n3_; clear n0_ n1_ n2_ n3_; (try clear hb); (try clear hb2); (try clear hk); (try clear hi); (try clear zQ); (try clear zqb); (try clear zIb)) | ((with_reducible refine zt (N := 5) rfl ?_); (try (refine gate_guard (by rfl) ?_; dsimp only)); refine zF ?hg (N := 5) ?hd (cs := #[.slice none 0 0, .slice none 0 0]) (t := 35) ?hr ?_; (case hd => rfl); (case hg => rfl); (case hr => first | (go_simp; done) | (go_simp; rfl)); intro zR hg w84 hbox hb; have n0_ := Aside0.mk (Kd.R_below (RL zX.out) hb); have n1_ := Aside0.mk (Kd.S_below (SL zdb.out) hb); have n2_ := Aside0.mk (Kd.Q_below (QL zV.out) hb); have n3_ := Aside0.mk (zk (by repeat (first | (with_reducible first | exact HB.out | apply zf | apply ze | apply zi) | exact HB.out)) hb); have n4_ := Aside0.mk (hbox); have n5_ := Aside0.mk ((by rw [hg]; exact (zm (by repeat (first | (with_reducible first | exact HB.out | apply zf | apply ze | apply zi) | exact HB.out))) : w.heap.size ≤ zR)); have n6_ := Aside0.mk ((by rw [hg]; exact (zm (by repeat (first | (with_reducible first | exact HB.out | apply zf | apply ze | apply zi) | exact HB.out))) : w.heap.size ≤ zR)); clear zX; clear zdb; clear zV; clear HB; have zX := n0_; have zdb := n1_; have zV := n2_; have HB := n3_; have zH := n4_; have GW387 := n5_; have zY := n6_; clear n0_ n1_ n2_ n3_ n4_ n5_ n6_; clear hb hbox hg; obtain ⟨Ao85, co85, eo85⟩ := Kd.R_slice zX.out; subst eo85; have zwc : w84.cell? ⟨zR, 0, none⟩ = some (.slice none 0 0) := (zb zH.out 0).trans rfl; have zxc : w84.cell? ⟨zR, 1, none⟩ = some (.slice none 0 0) := (zb zH.out 1).trans rfl; have zyc := zd zH.out 0; have zzc := zd zH.out 1; obtain ⟨Ao87, co87, eo87⟩ := Kd.S_slice zdb.out; subst eo87; have hcv88 := q_string (P := Try.prog) Try.underlying22 Try.underlying5 Try.underlying9 zV.out; obtain ⟨Ao89, co89, eo89, _⟩ := Kd.Q_slice zV.out; subst eo89; have hcv88q := q_string (P := Try.prog) Try.underlying22 Try.underlying5 Try.underlying9 ((Kd.Q_mono (Kd.Q_far (p := ⟨zR, 1, none⟩) (Kd.Q_far (p := ⟨zR, 0, none⟩) (Kd.Q_types zV.out zH.out (by decide)) (fun _ hk => hk.2) (.slice Ao85 t377.length co85)) (fun _ hk => hk.2) (.slice Ao87 t380.length co87)) (fun _ h_ => h_.1)))) | ((with_reducible refine zo (f := 16) rfl ?_); have y0_ := Aside0.mk (Kd.R_mono (Kd.R_far (p := ⟨zR, 1, none⟩) (Kd.R_far (p := ⟨zR, 0, none⟩) (Kd.R_types zX.out zH.out (by decide)) (fun _ hk => hk.2) (.slice Ao85 t377.length co85)) (fun _ hk => hk.2) (.slice Ao87 t380.length co87)) (fun _ h_ => h_.1)); have y1_ := Aside0.mk (Kd.S_mono (Kd.S_far (p := ⟨zR, 1, none⟩) (Kd.S_far (p := ⟨zR, 0, none⟩) (Kd.S_types zdb.out zH.out (by decide)) (fun _ hk => hk.2) (.slice Ao85 t377.length co85)) (fun _ hk => hk.2) (.slice Ao87 t380.length co87)) (fun _ h_ => h_.1)); have y2_ := Aside0.mk (Kd.Q_mono (Kd.Q_far (p := ⟨zR, 1, none⟩) (Kd.Q_far (p := ⟨zR, 0, none⟩) (Kd.Q_types zV.out zH.out (by decide)) (fun _ hk => hk.2) (.slice Ao85 t377.length co85)) (fun _ hk => hk.2) (.slice Ao87 t380.length co87)) (fun _ h_ => h_.1)); refine zC (some 34) rfl rfl Try.func16 (by kernel_rfl) rfl #[.agg #[.slice Ao85 t377.length co85, .slice Ao87 t380.length co87], .int .i64 t383, .slice (some ⟨_, 0, none⟩) (strOfNums t384).size (grownCap _ (strOfNums t384).size 0 5)] rfl (by (try simp only [List.map_toArray, List.map_cons, List.map_nil]); first | done | rfl) ?_; (with_reducible refine (disk_conv.calls _ _ ?hw_ kj2 _ _ t377 _ _ t380 t383 t384 t388 t391 ?side1 ?side2 ?side3 ?side4 ?hm_ A7.out).mono ?_); (case side1 => refine (Kd.R_reads' (e := 5) (base := w.heap.size) (ok := fun k_ => some k_ ≠ (.slice Ao89 t384.length co89 : Value).ownBlock) (n := t377.length) (c := co85) ?_).2.2; exact (RL y0_.out)); (case side2 => exact (Kd.R_reads' zX.out).2.1); (case side3 => refine (Kd.S_reads' (e := 45) (base := w.heap.size) (ok := fun k_ => (some k_ ≠ (.slice Ao85 t377.length co85 : Value).ownBlock ∧ some k_ ≠ (.slice Ao89 t384.length co89 : Value).ownBlock)) (n := t380.length) (c := co87) ?_).2.2; exact (SL y1_.out)); (case side4 => exact (Kd.S_reads' zdb.out).2.1); (case hm_ => rw [strOfNums_size]; exact Kd.C_max (Kd.Q_reads' zV.out).2.2); (case hw_ => first | rfl | simp [World.setCell]); rintro e w90 ⟨v389, v392, rfl, zQ, zqb, hb⟩; refine ⟨_, rfl, ?_⟩; have n0_ := Aside0.mk (Kd.R_elder' (RL y0_.out) (Kd.R_base zQ) hb); have n1_ := Aside0.mk (Kd.S_mono (Kd.S_told (Kd.S_told (Kd.S_old (SL y1_.out) hb) (Kd.R_base zQ)) (Kd.S_base zqb)) (fun _ h_ => h_.1)); have n2_ := Aside0.mk (Kd.Q_elder' (QL y2_.out) (Kd.R_base zQ) hb); have n3_ := Aside0.mk (Kd.R_lower (Kd.R_new' (Kd.R_new' zQ (Kd.R_lt (RL y0_.out))) (Kd.Q_lt (QL y2_.out))) (zm (by repeat (first | (with_reducible first | exact HB.out | apply zf | apply ze | apply zi | refine zc ?_ zY.out) | exact HB.out)))); have n4_ := Aside0.mk (Kd.S_lower (Kd.S_new' (Kd.S_new' (Kd.S_new' zqb (Kd.R_lt (RL y0_.out))) (Kd.S_lt (SL y1_.out))) (Kd.Q_lt (QL y2_.out))) (zm (by repeat (first | (with_reducible first | exact HB.out | apply zf | apply ze | apply zi | refine zc ?_ zY.out) | exact HB.out)))); have n5_ := Aside0.mk (zl (g := zR) (o := .cells #[.slice Ao85 t377.length co85, .slice Ao87 t380.length co87] 35 (0, 0)) (by (with_reducible repeat (first | refine zj ?_ _ | refine zg ?_ | refine zh ?_ _)); refine zz (cs := #[.slice Ao85 t377.length co85, .slice none 0 0]) ?_ 1 _ rfl; (with_reducible repeat (first | refine zj ?_ _ | refine zg ?_ | refine zh ?_ _)); refine zz (cs := #[.slice none 0 0, .slice none 0 0]) ?_ 0 _ rfl; (with_reducible repeat (first | refine zj ?_ _ | refine zg ?_ | refine zh ?_ _)); exact zH.out) hb); have n6_ := Aside0.mk (zk (by repeat (first | (with_reducible first | exact HB.out | apply zf | apply ze | apply zi | refine zc ?_ zY.out) | exact HB.out)) hb); clear zX; clear zdb; clear zV; clear zH; clear HB; have zX := n0_; have zdb := n1_; have zV := n2_; have zW := n3_; have zcb := n4_; have zH := n5_; have HB := n6_; clear n0_ n1_ n2_ n3_ n4_ n5_ n6_; (try clear hb); (try clear hb2); (try clear hk); (try clear hi); (try clear zQ); (try clear zqb); (try clear y0_ y1_ y2_)) | ((with_reducible refine zt (N := 8) rfl ?_); (try (refine gate_guard (by rfl) ?_; dsimp only)); refine zF ?hg (N := 8) ?hd (cs := #[.slice none 0 0, .slice none 0 0]) (t := 35) ?hr ?_; (case hd => rfl); (case hg => rfl); (case hr => first | (go_simp; done) | (go_simp; rfl)); intro zU hg w91 hbox hb; have n0_ := Aside0.mk (Kd.R_below (RL zX.out) hb); have n1_ := Aside0.mk (Kd.S_below (SL zdb.out) hb); have n2_ := Aside0.mk (Kd.Q_below (QL zV.out) hb); have n3_ := Aside0.mk (Kd.R_below (RL zW.out) hb); have n4_ := Aside0.mk (Kd.S_below (SL zcb.out) hb); have n5_ := Aside0.mk (zl (g := zR) (o := .cells #[.slice Ao85 t377.length co85, .slice Ao87 t380.length co87] 35 (0, 0)) (BL zH.out) hb); have n6_ := Aside0.mk (zk (by exact bl HB.out) hb); have n7_ := Aside0.mk (hbox); have n8_ := Aside0.mk ((by rw [hg]; exact (zm (by exact bl HB.out)) : w.heap.size ≤ zU)); have n9_ := Aside0.mk ((by rw [hg]; exact (zm (by exact bl HB.out)) : w.heap.size ≤ zU)); have n10_ := Aside0.mk ((by rw [hg]; exact Nat.ne_of_lt (zr (g := zR) (o := .cells #[.slice Ao85 t377.length co85, .slice Ao87 t380.length co87] 35 (0, 0)) (BL zH.out)) : zR ≠ zU)); have n11_ := Aside0.mk ((by rw [hg]; exact Nat.ne_of_gt (zr (g := zR) (o := .cells #[.slice Ao85 t377.length co85, .slice Ao87 t380.length co87] 35 (0, 0)) (BL zH.out)) : zU ≠ zR)); clear zX; clear zdb; clear zV; clear zW; clear zcb; clear zH; clear HB; have zX := n0_; have zdb := n1_; have zV := n2_; have zW := n3_; have zcb := n4_; have zH := n5_; have HB := n6_; have zI := n7_; have GW394 := n8_; have zbb := n9_; have zxb := n10_; have zyb := n11_; clear n0_ n1_ n2_ n3_ n4_ n5_ n6_ n7_ n8_ n9_ n10_ n11_; clear hb hbox hg; obtain ⟨Ao92, co92, eo92⟩ := Kd.R_slice zW.out; subst eo92; have zAd := zyb.out; have zBd := zxb.out; have zAc : w91.cell? ⟨zU, 0, none⟩ = some (.slice none 0 0) := (zb zI.out 0).trans rfl; have zBc : w91.cell? ⟨zU, 1, none⟩ = some (.slice none 0 0) := (zb zI.out 1).trans rfl; have zCc := zd zI.out 0; have zDc := zd zI.out 1; obtain ⟨Ao95, co95, eo95⟩ := Kd.S_slice zcb.out; subst eo95) | ((with_reducible refine zo (f := 15) rfl ?_); have y0_ := Aside0.mk (Kd.R_mono (Kd.R_far (p := ⟨zU, 1, none⟩) (Kd.R_far (p := ⟨zU, 0, none⟩) (Kd.R_types zX.out zI.out (by decide)) (fun _ hk => hk.2) (.slice Ao92 t388.length co92)) (fun _ hk => hk.2) (.slice Ao95 t391.length co95)) (fun _ h_ => h_.1)); have y1_ := Aside0.mk (Kd.S_mono (Kd.S_far (p := ⟨zU, 1, none⟩) (Kd.S_far (p := ⟨zU, 0, none⟩) (Kd.S_types zdb.out zI.out (by decide)) (fun _ hk => hk.2) (.slice Ao92 t388.length co92)) (fun _ hk => hk.2) (.slice Ao95 t391.length co95)) (fun _ h_ => h_.1)); have y2_ := Aside0.mk (Kd.Q_mono (Kd.Q_far (p := ⟨zU, 1, none⟩) (Kd.Q_far (p := ⟨zU, 0, none⟩) (Kd.Q_types zV.out zI.out (by decide)) (fun _ hk => hk.2) (.slice Ao92 t388.length co92)) (fun _ hk => hk.2) (.slice Ao95 t391.length co95)) (fun _ h_ => h_.1)); have y3_ := Aside0.mk (Kd.R_mono (Kd.R_far (p := ⟨zU, 1, none⟩) (Kd.R_far (p := ⟨zU, 0, none⟩) (Kd.R_types zW.out zI.out (by decide)) (fun _ hk => hk.2) (.slice Ao92 t388.length co92)) (fun _ hk => hk.2) (.slice Ao95 t391.length co95)) (fun _ h_ => h_.1)); have y4_ := Aside0.mk (Kd.S_mono (Kd.S_far (p := ⟨zU, 1, none⟩) (Kd.S_far (p := ⟨zU, 0, none⟩) (Kd.S_types zcb.out zI.out (by decide)) (fun _ hk => hk.2) (.slice Ao92 t388.length co92)) (fun _ hk => hk.2) (.slice Ao95 t391.length co95)) (fun _ h_ => h_.1)); refine zC (some 37) rfl rfl Try.func15 (by kernel_rfl) rfl #[.slice A0 l0.length c0] rfl (by (try simp only [List.map_toArray, List.map_cons, List.map_nil]); first | done | rfl) ?_; (with_reducible refine (spec_DrawDiskWrite.calls kj2 _ _ l0 t395 t398 t401 t402 _ ?side1 ?side2 A8.out).mono ?_); (case side1 => exact Kd.C_below HR0.out (by repeat (first | (with_reducible first | exact HB.out | apply zf | apply ze | apply zi | refine zc ?_ zY.out | refine zc ?_ zbb.out) | exact HB.out))); (case side2 => exact HC0.out); rintro e w96 ⟨v396, v399, v403, rfl, zQ, zqb, zIb, hb⟩; refine ⟨_, rfl, ?_⟩; have n0_ := Aside0.mk (Kd.R_mono (Kd.R_told (Kd.R_told (Kd.R_old (RL y0_.out) hb) (Kd.R_base zQ)) (Kd.Q_base zIb)) (fun _ h_ => h_.1)); have n1_ := Aside0.mk (Kd.S_mono (Kd.S_told (Kd.S_told (Kd.S_told (Kd.S_old (SL y1_.out) hb) (Kd.R_base zQ)) (Kd.S_base zqb)) (Kd.Q_base zIb)) (fun _ h_ => h_.1)); have n2_ := Aside0.mk (Kd.Q_mono (Kd.Q_told (Kd.Q_told (Kd.Q_old (QL y2_.out) hb) (Kd.R_base zQ)) (Kd.Q_base zIb)) (fun _ h_ => h_.1)); have n3_ := Aside0.mk (Kd.R_mono (Kd.R_told (Kd.R_told (Kd.R_old (RL y3_.out) hb) (Kd.R_base zQ)) (Kd.Q_base zIb)) (fun _ h_ => h_.1)); have n4_ := Aside0.mk (Kd.S_mono (Kd.S_told (Kd.S_told (Kd.S_told (Kd.S_old (SL y4_.out) hb) (Kd.R_base zQ)) (Kd.S_base zqb)) (Kd.Q_base zIb)) (fun _ h_ => h_.1)); have n5_ := Aside0.mk (Kd.R_lower (Kd.R_new' (Kd.R_new' (Kd.R_new' zQ (Kd.R_lt (RL y0_.out))) (Kd.Q_lt (QL y2_.out))) (Kd.R_lt (RL y3_.out))) (zm (by repeat (first | (with_reducible first | exact HB.out | apply zf | apply ze | apply zi | refine zc ?_ zY.out | refine zc ?_ zbb.out) | exact HB.out)))); have n6_ := Aside0.mk (Kd.S_lower (Kd.S_new' (Kd.S_new' (Kd.S_new' (Kd.S_new' (Kd.S_new' zqb (Kd.R_lt (RL y0_.out))) (Kd.S_lt (SL y1_.out))) (Kd.Q_lt (QL y2_.out))) (Kd.R_lt (RL y3_.out))) (Kd.S_lt (SL y4_.out))) (zm (by repeat (first | (with_reducible first | exact HB.out | apply zf | apply ze | apply zi | refine zc ?_ zY.out | refine zc ?_ zbb.out) | exact HB.out)))); have n7_ := Aside0.mk (Kd.Q_lower (Kd.Q_new' (Kd.Q_new' (Kd.Q_new' zIb (Kd.R_lt (RL y0_.out))) (Kd.Q_lt (QL y2_.out))) (Kd.R_lt (RL y3_.out))) (zm (by repeat (first | (with_reducible first | exact HB.out | apply zf | apply ze | apply zi | refine zc ?_ zY.out | refine zc ?_ zbb.out) | exact HB.out)))); have n8_ := Aside0.mk (zl (g := zR) (o := .cells #[.slice Ao85 t377.length co85, .slice Ao87 t380.length co87] 35 (0, 0)) (by (with_reducible repeat (first | refine zj ?_ _ | refine zg ?_ | refine zh ?_ _)); refine zE ?_ zxb.out _; (with_reducible repeat (first | refine zj ?_ _ | refine zg ?_ | refine zh ?_ _)); refine zE ?_ zxb.out _; (with_reducible repeat (first | refine zj ?_ _ | refine zg ?_ | refine zh ?_ _)); exact zH.out) hb); have n9_ := Aside0.mk (zl (g := zU) (o := .cells #[.slice Ao92 t388.length co92, .slice Ao95 t391.length co95] 35 (0, 0)) (by (with_reducible repeat (first | refine zj ?_ _ | refine zg ?_ | refine zh ?_ _)); refine zz (cs := #[.slice Ao92 t388.length co92, .slice none 0 0]) ?_ 1 _ rfl; (with_reducible repeat (first | refine zj ?_ _ | refine zg ?_ | refine zh ?_ _)); refine zz (cs := #[.slice none 0 0, .slice none 0 0]) ?_ 0 _ rfl; (with_reducible repeat (first | refine zj ?_ _ | refine zg ?_ | refine zh ?_ _)); exact zI.out) hb); have n10_ := Aside0.mk (zk (by repeat (first | (with_reducible first | exact HB.out | apply zf | apply ze | apply zi | refine zc ?_ zY.out | refine zc ?_ zbb.out) | exact HB.out)) hb); clear zX; clear zdb; clear zV; clear zW; clear zcb; clear zH; clear zI; clear HB; have zX := n0_; have zdb := n1_; have zV := n2_; have zW := n3_; have zcb := n4_; have zfb := n5_; have zhb := n6_; have zZ := n7_; have zH := n8_; have zI := n9_; have HB := n10_; clear n0_ n1_ n2_ n3_ n4_ n5_ n6_ n7_ n8_ n9_ n10_; (try clear hb); (try clear hb2); (try clear hk); (try clear hi); (try clear zQ); (try clear zqb); (try clear zIb); obtain ⟨Ao97, co97, eo97⟩ := Kd.R_slice zfb.out; subst eo97; have zEc : w96.cell? ⟨zR, 0, none⟩ = some (.slice Ao85 t377.length co85) := (zb zH.out 0).trans rfl; have zFc : w96.cell? ⟨zR, 1, none⟩ = some (.slice Ao87 t380.length co87) := (zb zH.out 1).trans rfl; have zGc := zd zH.out 0; have zHc := zd zH.out 1; obtain ⟨Ao99, co99, eo99⟩ := Kd.S_slice zhb.out; subst eo99; obtain ⟨Ao100, co100, eo100, _⟩ := Kd.Q_slice zZ.out; subst eo100; (try clear y0_ y1_ y2_ y3_ y4_)) | ((with_reducible refine zo (f := 17) rfl ?_); have y0_ := Aside0.mk (Kd.R_mono (Kd.R_far (p := ⟨zR, 1, none⟩) (Kd.R_far (p := ⟨zR, 0, none⟩) (Kd.R_types zfb.out zH.out (by decide)) (fun _ hk => hk.2) (.slice Ao97 t395.length co97)) (fun _ hk => hk.2) (.slice Ao99 t398.length co99)) (fun _ h_ => h_.1)); have y1_ := Aside0.mk (Kd.S_mono (Kd.S_far (p := ⟨zR, 1, none⟩) (Kd.S_far (p := ⟨zR, 0, none⟩) (Kd.S_types zhb.out zH.out (by decide)) (fun _ hk => hk.2) (.slice Ao97 t395.length co97)) (fun _ hk => hk.2) (.slice Ao99 t398.length co99)) (fun _ h_ => h_.1)); have y2_ := Aside0.mk (Kd.Q_mono (Kd.Q_far (p := ⟨zR, 1, none⟩) (Kd.Q_far (p := ⟨zR, 0, none⟩) (Kd.Q_types zZ.out zH.out (by decide)) (fun _ hk => hk.2) (.slice Ao97 t395.length co97)) (fun _ hk => hk.2) (.slice Ao99 t398.length co99)) (fun _ h_ => h_.1)); have y3_ := Aside0.mk (Kd.R_mono (Kd.R_far (p := ⟨zR, 1, none⟩) (Kd.R_far (p := ⟨zR, 0, none⟩) (Kd.R_types zX.out zH.out (by decide)) (fun _ hk => hk.2) (.slice Ao97 t395.length co97)) (fun _ hk => hk.2) (.slice Ao99 t398.length co99)) (fun _ h_ => h_.1)); have y4_ := Aside0.mk (Kd.S_mono (Kd.S_far (p := ⟨zR, 1, none⟩) (Kd.S_far (p := ⟨zR, 0, none⟩) (Kd.S_types zdb.out zH.out (by decide)) (fun _ hk => hk.2) (.slice Ao97 t395.length co97)) (fun _ hk => hk.2) (.slice Ao99 t398.length co99)) (fun _ h_ => h_.1)); have y5_ := Aside0.mk (Kd.Q_mono (Kd.Q_far (p := ⟨zR, 1, none⟩) (Kd.Q_far (p := ⟨zR, 0, none⟩) (Kd.Q_types zV.out zH.out (by decide)) (fun _ hk => hk.2) (.slice Ao97 t395.length co97)) (fun _ hk => hk.2) (.slice Ao99 t398.length co99)) (fun _ h_ => h_.1)); have y6_ := Aside0.mk (Kd.R_mono (Kd.R_far (p := ⟨zR, 1, none⟩) (Kd.R_far (p := ⟨zR, 0, none⟩) (Kd.R_types zW.out zH.out (by decide)) (fun _ hk => hk.2) (.slice Ao97 t395.length co97)) (fun _ hk => hk.2) (.slice Ao99 t398.length co99)) (fun _ h_ => h_.1)); have y7_ := Aside0.mk (Kd.S_mono (Kd.S_far (p := ⟨zR, 1, none⟩) (Kd.S_far (p := ⟨zR, 0, none⟩) (Kd.S_types zcb.out zH.out (by decide)) (fun _ hk => hk.2) (.slice Ao97 t395.length co97)) (fun _ hk => hk.2) (.slice Ao99 t398.length co99)) (fun _ h_ => h_.1)); refine zC (some 44) rfl rfl Try.func17 (by kernel_rfl) rfl #[.agg #[.slice Ao97 t395.length co97, .slice Ao99 t398.length co99], .int .i64 t401, .slice Ao100 t402.length co100] rfl (by (try simp only [List.map_toArray, List.map_cons, List.map_nil]); first | done | rfl) ?_; (with_reducible refine (spec_DiskWrite.calls kj2 _ _ t395 _ _ t398 t401 _ _ t402 t405 t408 _ ?side1 ?side2 ?side3 ?side4 ?side5 ?side6 A9.out).mono ?_); (case side1 => refine (Kd.R_reads' (e := 5) (base := w.heap.size) (ok := fun k_ => (((some k_ ≠ (.slice Ao100 t402.length co100 : Value).ownBlock ∧ some k_ ≠ (.slice Ao85 t377.length co85 : Value).ownBlock) ∧ some k_ ≠ (.slice Ao89 t384.length co89 : Value).ownBlock) ∧ some k_ ≠ (.slice Ao92 t388.length co92 : Value).ownBlock)) (n := t395.length) (c := co97) ?_).2.2; exact (RL y0_.out)); (case side2 => exact (Kd.R_reads' zfb.out).2.1); (case side3 => refine (Kd.S_reads' (e := 45) (base := w.heap.size) (ok := fun k_ => ((((((some k_ ≠ (.slice Ao97 t395.length co97 : Value).ownBlock ∧ some k_ ≠ (.slice Ao100 t402.length co100 : Value).ownBlock) ∧ some k_ ≠ (.slice Ao85 t377.length co85 : Value).ownBlock) ∧ some k_ ≠ (.slice Ao87 t380.length co87 : Value).ownBlock) ∧ some k_ ≠ (.slice Ao89 t384.length co89 : Value).ownBlock) ∧ some k_ ≠ (.slice Ao92 t388.length co92 : Value).ownBlock) ∧ some k_ ≠ (.slice Ao95 t391.length co95 : Value).ownBlock)) (n := t398.length) (c := co99) ?_).2.2; exact (SL y1_.out)); (case side4 => exact (Kd.S_reads' zhb.out).2.1); (case side5 => refine (Kd.Q_reads' (e := 5) (base := w.heap.size) (ok := fun k_ => (((some k_ ≠ (.slice Ao97 t395.length co97 : Value).ownBlock ∧ some k_ ≠ (.slice Ao85 t377.length co85 : Value).ownBlock) ∧ some k_ ≠ (.slice Ao89 t384.length co89 : Value).ownBlock) ∧ some k_ ≠ (.slice Ao92 t388.length co92 : Value).ownBlock)) (n := t402.length) (c := co100) ?_).2.2; exact (QL y2_.out)); (case side6 => exact (Kd.Q_reads' zZ.out).2.1); rintro e w101 ⟨v406, v409, rfl, zQ, zqb, hb⟩; refine ⟨_, rfl, ?_⟩; have n0_ := Aside0.mk (Kd.R_elder' (RL y3_.out) (Kd.R_base zQ) hb); have n1_ := Aside0.mk (Kd.S_mono (Kd.S_told (Kd.S_told (Kd.S_old (SL y4_.out) hb) (Kd.R_base zQ)) (Kd.S_base zqb)) (fun _ h_ => h_.1)); have n2_ := Aside0.mk (Kd.Q_elder' (QL y5_.out) (Kd.R_base zQ) hb); have n3_ := Aside0.mk (Kd.R_elder' (RL y6_.out) (Kd.R_base zQ) hb); have n4_ := Aside0.mk (Kd.S_mono (Kd.S_told (Kd.S_told (Kd.S_old (SL y7_.out) hb) (Kd.R_base zQ)) (Kd.S_base zqb)) (fun _ h_ => h_.1)); have n5_ := Aside0.mk (Kd.R_elder' (RL y0_.out) (Kd.R_base zQ) hb); have n6_ := Aside0.mk (Kd.S_mono (Kd.S_told (Kd.S_told (Kd.S_old (SL y1_.out) hb) (Kd.R_base zQ)) (Kd.S_base zqb)) (fun _ h_ => h_.1)); have n7_ := Aside0.mk (Kd.Q_elder' (QL y2_.out) (Kd.R_base zQ) hb); have n8_ := Aside0.mk (Kd.R_lower (Kd.R_new' (Kd.R_new' (Kd.R_new' (Kd.R_new' (Kd.R_new' zQ (Kd.R_lt (RL y3_.out))) (Kd.Q_lt (QL y5_.out))) (Kd.R_lt (RL y6_.out))) (Kd.R_lt (RL y0_.out))) (Kd.Q_lt (QL y2_.out))) (zm (by repeat (first | (with_reducible first | exact HB.out | apply zf | apply ze | apply zi | refine zc ?_ zY.out | refine zc ?_ zbb.out) | exact HB.out)))); have n9_ := Aside0.mk (Kd.S_lower (Kd.S_new' (Kd.S_new' (Kd.S_new' (Kd.S_new' (Kd.S_new' (Kd.S_new' (Kd.S_new' (Kd.S_new' zqb (Kd.R_lt (RL y3_.out))) (Kd.S_lt (SL y4_.out))) (Kd.Q_lt (QL y5_.out))) (Kd.R_lt (RL y6_.out))) (Kd.S_lt (SL y7_.out))) (Kd.R_lt (RL y0_.out))) (Kd.S_lt (SL y1_.out))) (Kd.Q_lt (QL y2_.out))) (zm (by repeat (first | (with_reducible first | exact HB.out | apply zf | apply ze | apply zi | refine zc ?_ zY.out | refine zc ?_ zbb.out) | exact HB.out)))); have n10_ := Aside0.mk (zl (g := zR) (o := .cells #[.slice Ao97 t395.length co97, .slice Ao99 t398.length co99] 35 (0, 0)) (by (with_reducible repeat (first | refine zj ?_ _ | refine zg ?_ | refine zh ?_ _)); refine zz (cs := #[.slice Ao97 t395.length co97, .slice Ao87 t380.length co87]) ?_ 1 _ rfl; (with_reducible repeat (first | refine zj ?_ _ | refine zg ?_ | refine zh ?_ _)); refine zz (cs := #[.slice Ao85 t377.length co85, .slice Ao87 t380.length co87]) ?_ 0 _ rfl; (with_reducible repeat (first | refine zj ?_ _ | refine zg ?_ | refine zh ?_ _)); exact zH.out) hb); have n11_ := Aside0.mk (zl (g := zU) (o := .cells #[.slice Ao92 t388.length co92, .slice Ao95 t391.length co95] 35 (0, 0)) (by (with_reducible repeat (first | refine zj ?_ _ | refine zg ?_ | refine zh ?_ _)); refine zE ?_ zyb.out _; (with_reducible repeat (first | refine zj ?_ _ | refine zg ?_ | refine zh ?_ _)); refine zE ?_ zyb.out _; (with_reducible repeat (first | refine zj ?_ _ | refine zg ?_ | refine zh ?_ _)); exact zI.out) hb); have n12_ := Aside0.mk (zk (by repeat (first | (with_reducible first | exact HB.out | apply zf | apply ze | apply zi | refine zc ?_ zY.out | refine zc ?_ zbb.out) | exact HB.out)) hb); clear zX; clear zdb; clear zV; clear zW; clear zcb; clear zfb; clear zhb; clear zZ; clear zH; clear zI; clear HB; have zX := n0_; have zdb := n1_; have zV := n2_; have zW := n3_; have zcb := n4_; have zfb := n5_; have zhb := n6_; have zZ := n7_; have zib := n8_; have zjb := n9_; have zH := n10_; have zI := n11_; have HB := n12_; clear n0_ n1_ n2_ n3_ n4_ n5_ n6_ n7_ n8_ n9_ n10_ n11_ n12_; (try clear hb); (try clear hb2); (try clear hk); (try clear hi); (try clear zQ); (try clear zqb); obtain ⟨Ao102, co102, eo102⟩ := Kd.R_slice zib.out; subst eo102; have zQb : w101.cell? ⟨zU, 0, none⟩ = some (.slice Ao92 t388.length co92) := (zb zI.out 0).trans rfl; have zRb : w101.cell? ⟨zU, 1, none⟩ = some (.slice Ao95 t391.length co95) := (zb zI.out 1).trans rfl; have zSb := zd zI.out 0; have zTb := zd zI.out 1; (try clear y0_ y1_ y2_ y3_ y4_ y5_ y6_ y7_)))
    by_cases c10 : (t405.length : Int) = 0
    ·rw [if_pos c10] at H
     have c10b0 : ((t405.length : Int) == 0) = true := beq_iff_eq.mpr c10
     have c10b1 : ((t405.length : Int) != 0) = false := bne_eq_false_iff_eq.mpr c10
     clear c10
     by_cases c11 : (t388.length : Int) = 0
     ·rw [if_pos c11] at H
      have c11b0 : ((t388.length : Int) == 0) = true := beq_iff_eq.mpr c11
      have c11b1 : ((t388.length : Int) != 0) = false := bne_eq_false_iff_eq.mpr c11
      clear c11
      by_cases c12 : (t391.length : Int) = 0
      ·as_aux_lemma =>
        rw [if_pos c12] at H
        have c12b0 : ((t391.length : Int) == 0) = true := beq_iff_eq.mpr c12
        have c12b1 : ((t391.length : Int) != 0) = false := bne_eq_false_iff_eq.mpr c12
        clear c12
        replace H := Option.bind_eq_some_iff.mp H
        obtain ⟨t411, A130, H⟩ := H
        replace H : (some ((t411.length : Int) == 0)) = some r := H
        have A13 := Aside0.mk A130
        clear A130
        obtain rfl := Option.some.inj H
        go_wp2_with (first | (go_at_call 18; (with_reducible refine (impl_DiskRead.calls kj2 _ _ t388 _ _ t391 t401 t411 _ ?side1 ?side2 ?side3 ?side4 A13.out).mono ?_); (case side1 => repeat (first | exact (Kd.R_reads' zW.out).2.2 | (with_reducible refine Kd.C_alloc ?_ _) | (with_reducible refine Kd.C_drewN ?_ _) | (with_reducible refine Kd.C_drew ?_))); (case side2 => exact (Kd.R_reads' zW.out).2.1); (case side3 => repeat (first | exact (Kd.S_reads' zcb.out).2.2 | (with_reducible refine Kd.C_alloc ?_ _) | (with_reducible refine Kd.C_drewN ?_ _) | (with_reducible refine Kd.C_drew ?_))); (case side4 => exact (Kd.S_reads' zcb.out).2.1); rintro e w35 ⟨v412, rfl, zQ, hb⟩; have n0_ := Aside0.mk (Kd.R_elder' (RL zX.out) (Kd.R_base zQ) hb); have n1_ := Aside0.mk (Kd.S_elder' (SL zdb.out) (Kd.R_base zQ) hb); have n2_ := Aside0.mk (Kd.Q_elder' (QL zV.out) (Kd.R_base zQ) hb); have n3_ := Aside0.mk (Kd.R_elder' (RL zW.out) (Kd.R_base zQ) hb); have n4_ := Aside0.mk (Kd.S_elder' (SL zcb.out) (Kd.R_base zQ) hb); have n5_ := Aside0.mk (Kd.R_elder' (RL zfb.out) (Kd.R_base zQ) hb); have n6_ := Aside0.mk (Kd.S_elder' (SL zhb.out) (Kd.R_base zQ) hb); have n7_ := Aside0.mk (Kd.Q_elder' (QL zZ.out) (Kd.R_base zQ) hb); have n8_ := Aside0.mk (Kd.R_elder' (RL zib.out) (Kd.R_base zQ) hb); have n9_ := Aside0.mk (Kd.S_elder' (SL zjb.out) (Kd.R_base zQ) hb); have n10_ := Aside0.mk (Kd.R_lower (Kd.R_new' (Kd.R_new' (Kd.R_new' (Kd.R_new' (Kd.R_new' (Kd.R_new' zQ (Kd.R_lt (RL zX.out))) (Kd.Q_lt (QL zV.out))) (Kd.R_lt (RL zW.out))) (Kd.R_lt (RL zfb.out))) (Kd.Q_lt (QL zZ.out))) (Kd.R_lt (RL zib.out))) (zm (by exact bl HB.out))); have n11_ := Aside0.mk (zl (g := zR) (o := .cells #[.slice Ao97 t395.length co97, .slice Ao99 t398.length co99] 35 (0, 0)) (BL zH.out) hb); have n12_ := Aside0.mk (zl (g := zU) (o := .cells #[.slice Ao92 t388.length co92, .slice Ao95 t391.length co95] 35 (0, 0)) (BL zI.out) hb); have n13_ := Aside0.mk (zk (by exact bl HB.out) hb); clear zX; clear zdb; clear zV; clear zW; clear zcb; clear zfb; clear zhb; clear zZ; clear zib; clear zjb; clear zH; clear zI; clear HB; have zX := n0_; have zdb := n1_; have zV := n2_; have zW := n3_; have zcb := n4_; have zfb := n5_; have zhb := n6_; have zZ := n7_; have zib := n8_; have zjb := n9_; have zOb := n10_; have zH := n11_; have zI := n12_; have HB := n13_; clear n0_ n1_ n2_ n3_ n4_ n5_ n6_ n7_ n8_ n9_ n10_ n11_ n12_ n13_; (try clear hb); (try clear hb2); (try clear hk); (try clear hi); (try clear zQ); obtain ⟨Ao36, co36, eo36⟩ := Kd.R_slice zOb.out; subst eo36))
        go_ret
        exact ⟨by first | rfl | (simp [errW_none, errW_some] <;> rfl) | (simp [*, errW_none, errW_some] <;> rfl), by repeat (first | (with_reducible first | exact HB.out | apply zf | apply ze | apply zi | refine zc ?_ zY.out | refine zc ?_ zbb.out) | exact HB.out)⟩
      ·rw [if_neg c12] at H
       have c12b0 : ((t391.length : Int) == 0) = false := beq_eq_false_iff_ne.mpr c12
       have c12b1 : ((t391.length : Int) != 0) = true := bne_iff_ne.mpr c12
       have c12b2 : ¬ (t391 = []) := fun h_ => c12 (by rw [h_]; rfl)
       exact absurd H (by simp)
     ·rw [if_neg c11] at H
      have c11b0 : ((t388.length : Int) == 0) = false := beq_eq_false_iff_ne.mpr c11
      have c11b1 : ((t388.length : Int) != 0) = true := bne_iff_ne.mpr c11
      have c11b2 : ¬ (t388 = []) := fun h_ => c11 (by rw [h_]; rfl)
      exact absurd H (by simp)
    ·rw [if_neg c10] at H
     have c10b0 : ((t405.length : Int) == 0) = false := beq_eq_false_iff_ne.mpr c10
     have c10b1 : ((t405.length : Int) != 0) = true := bne_iff_ne.mpr c10
     have c10b2 : ¬ (t405 = []) := fun h_ => c10 (by rw [h_]; rfl)
     replace H := Option.bind_eq_some_iff.mp H
     obtain ⟨⟨t414, t417⟩, A790, H⟩ := H
     replace H : ((laws_lwChoices.f kj2 l1 0).bind fun t420 => ((impl_DiskCrash.f kj2 t414 t417 t420).bind fun bt423 => ((impl_DiskRead.f kj2 bt423.1 bt423.2 t401).bind fun t430 => (if (strOfNums t430).toList = (strOfNums t402).toList then ((impl_DiskRead.f kj2 t388 t391 t401).bind fun t433 => (laws_FnSync.j1 kj2 l1 t401 ((strOfNums t433).toList != (strOfNums t402).toList) t395 t398 t388 t391)) else (laws_FnSync.j1 kj2 l1 t401 true t395 t398 t388 t391))))) = some r := H
     have A79 := Aside0.mk A790
     clear A790
     replace H := Option.bind_eq_some_iff.mp H
     obtain ⟨t420, A800, H⟩ := H
     replace H : ((impl_DiskCrash.f kj2 t414 t417 t420).bind fun bt423 => ((impl_DiskRead.f kj2 bt423.1 bt423.2 t401).bind fun t430 => (if (strOfNums t430).toList = (strOfNums t402).toList then ((impl_DiskRead.f kj2 t388 t391 t401).bind fun t433 => (laws_FnSync.j1 kj2 l1 t401 ((strOfNums t433).toList != (strOfNums t402).toList) t395 t398 t388 t391)) else (laws_FnSync.j1 kj2 l1 t401 true t395 t398 t388 t391)))) = some r := H
     have A80 := Aside0.mk A800
     clear A800
     replace H := Option.bind_eq_some_iff.mp H
     obtain ⟨⟨t423, t426⟩, A810, H⟩ := H
     replace H : ((impl_DiskRead.f kj2 t423 t426 t401).bind fun t430 => (if (strOfNums t430).toList = (strOfNums t402).toList then ((impl_DiskRead.f kj2 t388 t391 t401).bind fun t433 => (laws_FnSync.j1 kj2 l1 t401 ((strOfNums t433).toList != (strOfNums t402).toList) t395 t398 t388 t391)) else (laws_FnSync.j1 kj2 l1 t401 true t395 t398 t388 t391))) = some r := H
     have A81 := Aside0.mk A810
     clear A810
     have HC82 := Aside0.mk H
     clear H
     go_upto_region 9 with (first | ((with_reducible refine zo (f := 20) rfl ?_); refine zC (some 66) rfl rfl Try.func20 (by kernel_rfl) rfl #[.agg #[.slice Ao92 t388.length co92, .slice Ao95 t391.length co95]] rfl (by (try simp only [List.map_toArray, List.map_cons, List.map_nil]); first | done | rfl) ?_; (with_reducible refine (impl_DiskSync.calls kj2 _ _ t388 _ _ t391 t414 t417 _ ?side1 ?side2 ?side3 ?side4 A79.out).mono ?_); (case side1 => repeat (first | exact (Kd.R_reads' zW.out).2.2 | (with_reducible refine Kd.C_alloc ?_ _) | (with_reducible refine Kd.C_drewN ?_ _) | (with_reducible refine Kd.C_drew ?_))); (case side2 => exact (Kd.R_reads' zW.out).2.1); (case side3 => repeat (first | exact (Kd.S_reads' zcb.out).2.2 | (with_reducible refine Kd.C_alloc ?_ _) | (with_reducible refine Kd.C_drewN ?_ _) | (with_reducible refine Kd.C_drew ?_))); (case side4 => exact (Kd.S_reads' zcb.out).2.1); rintro e w104 ⟨v415, v418, rfl, zQ, zqb, hb⟩; refine ⟨_, rfl, ?_⟩; have n0_ := Aside0.mk (Kd.R_elder' (RL zX.out) (Kd.R_base zQ) hb); have n1_ := Aside0.mk (Kd.S_mono (Kd.S_told (Kd.S_told (Kd.S_old (SL zdb.out) hb) (Kd.R_base zQ)) (Kd.S_base zqb)) (fun _ h_ => h_.1)); have n2_ := Aside0.mk (Kd.Q_elder' (QL zV.out) (Kd.R_base zQ) hb); have n3_ := Aside0.mk (Kd.R_elder' (RL zW.out) (Kd.R_base zQ) hb); have n4_ := Aside0.mk (Kd.S_mono (Kd.S_told (Kd.S_told (Kd.S_old (SL zcb.out) hb) (Kd.R_base zQ)) (Kd.S_base zqb)) (fun _ h_ => h_.1)); have n5_ := Aside0.mk (Kd.R_elder' (RL zfb.out) (Kd.R_base zQ) hb); have n6_ := Aside0.mk (Kd.S_mono (Kd.S_told (Kd.S_told (Kd.S_old (SL zhb.out) hb) (Kd.R_base zQ)) (Kd.S_base zqb)) (fun _ h_ => h_.1)); have n7_ := Aside0.mk (Kd.Q_elder' (QL zZ.out) (Kd.R_base zQ) hb); have n8_ := Aside0.mk (Kd.R_elder' (RL zib.out) (Kd.R_base zQ) hb); have n9_ := Aside0.mk (Kd.S_mono (Kd.S_told (Kd.S_told (Kd.S_old (SL zjb.out) hb) (Kd.R_base zQ)) (Kd.S_base zqb)) (fun _ h_ => h_.1)); have n10_ := Aside0.mk (Kd.R_lower (Kd.R_new' (Kd.R_new' (Kd.R_new' (Kd.R_new' (Kd.R_new' (Kd.R_new' zQ (Kd.R_lt (RL zX.out))) (Kd.Q_lt (QL zV.out))) (Kd.R_lt (RL zW.out))) (Kd.R_lt (RL zfb.out))) (Kd.Q_lt (QL zZ.out))) (Kd.R_lt (RL zib.out))) (zm (by exact bl HB.out))); have n11_ := Aside0.mk (Kd.S_lower (Kd.S_new' (Kd.S_new' (Kd.S_new' (Kd.S_new' (Kd.S_new' (Kd.S_new' (Kd.S_new' (Kd.S_new' (Kd.S_new' (Kd.S_new' zqb (Kd.R_lt (RL zX.out))) (Kd.S_lt (SL zdb.out))) (Kd.Q_lt (QL zV.out))) (Kd.R_lt (RL zW.out))) (Kd.S_lt (SL zcb.out))) (Kd.R_lt (RL zfb.out))) (Kd.S_lt (SL zhb.out))) (Kd.Q_lt (QL zZ.out))) (Kd.R_lt (RL zib.out))) (Kd.S_lt (SL zjb.out))) (zm (by exact bl HB.out))); have n12_ := Aside0.mk (zl (g := zR) (o := .cells #[.slice Ao97 t395.length co97, .slice Ao99 t398.length co99] 35 (0, 0)) (BL zH.out) hb); have n13_ := Aside0.mk (zl (g := zU) (o := .cells #[.slice Ao92 t388.length co92, .slice Ao95 t391.length co95] 35 (0, 0)) (BL zI.out) hb); have n14_ := Aside0.mk (zk (by exact bl HB.out) hb); clear zX; clear zdb; clear zV; clear zW; clear zcb; clear zfb; clear zhb; clear zZ; clear zib; clear zjb; clear zH; clear zI; clear HB; have zX := n0_; have zdb := n1_; have zV := n2_; have zW := n3_; have zcb := n4_; have zfb := n5_; have zhb := n6_; have zZ := n7_; have zib := n8_; have zjb := n9_; have zkb := n10_; have zlb := n11_; have zH := n12_; have zI := n13_; have HB := n14_; clear n0_ n1_ n2_ n3_ n4_ n5_ n6_ n7_ n8_ n9_ n10_ n11_ n12_ n13_ n14_; (try clear hb); (try clear hb2); (try clear hk); (try clear hi); (try clear zQ); (try clear zqb)) | ((with_reducible refine zo (f := 21) rfl ?_); refine zC (some 68) rfl rfl Try.func21 (by kernel_rfl) rfl #[.slice A1 l1.length c1, .int .i64 0] rfl (by (try simp only [List.map_toArray, List.map_cons, List.map_nil]); first | done | rfl) ?_; (with_reducible refine (laws_lwChoices.calls kj2 _ _ l1 0 t420 _ ?side1 ?side2 A80.out).mono ?_); (case side1 => repeat (first | exact (Kd.C_below HR1.out HB.out) | (with_reducible refine Kd.C_alloc ?_ _) | (with_reducible refine Kd.C_drewN ?_ _) | (with_reducible refine Kd.C_drew ?_))); (case side2 => exact HC1.out); rintro e w105 ⟨v421, rfl, zQ, hb⟩; refine ⟨_, rfl, ?_⟩; have n0_ := Aside0.mk (Kd.R_below (RL zX.out) hb); have n1_ := Aside0.mk (Kd.S_below (SL zdb.out) hb); have n2_ := Aside0.mk (Kd.Q_below (QL zV.out) hb); have n3_ := Aside0.mk (Kd.R_below (RL zW.out) hb); have n4_ := Aside0.mk (Kd.S_below (SL zcb.out) hb); have n5_ := Aside0.mk (Kd.R_below (RL zfb.out) hb); have n6_ := Aside0.mk (Kd.S_below (SL zhb.out) hb); have n7_ := Aside0.mk (Kd.Q_below (QL zZ.out) hb); have n8_ := Aside0.mk (Kd.R_below (RL zib.out) hb); have n9_ := Aside0.mk (Kd.S_below (SL zjb.out) hb); have n10_ := Aside0.mk (Kd.R_below (RL zkb.out) hb); have n11_ := Aside0.mk (Kd.S_below (SL zlb.out) hb); have n12_ := Aside0.mk (Kd.R_lower zQ (zm (by exact bl HB.out))); have n13_ := Aside0.mk (zl (g := zR) (o := .cells #[.slice Ao97 t395.length co97, .slice Ao99 t398.length co99] 35 (0, 0)) (BL zH.out) hb); have n14_ := Aside0.mk (zl (g := zU) (o := .cells #[.slice Ao92 t388.length co92, .slice Ao95 t391.length co95] 35 (0, 0)) (BL zI.out) hb); have n15_ := Aside0.mk (zk (by exact bl HB.out) hb); clear zX; clear zdb; clear zV; clear zW; clear zcb; clear zfb; clear zhb; clear zZ; clear zib; clear zjb; clear zkb; clear zlb; clear zH; clear zI; clear HB; have zX := n0_; have zdb := n1_; have zV := n2_; have zW := n3_; have zcb := n4_; have zfb := n5_; have zhb := n6_; have zZ := n7_; have zib := n8_; have zjb := n9_; have zkb := n10_; have zlb := n11_; have zpb := n12_; have zH := n13_; have zI := n14_; have HB := n15_; clear n0_ n1_ n2_ n3_ n4_ n5_ n6_ n7_ n8_ n9_ n10_ n11_ n12_ n13_ n14_ n15_; (try clear hb); (try clear hb2); (try clear hk); (try clear hi); (try clear zQ); obtain ⟨Ao106, co106, eo106⟩ := Kd.R_slice zkb.out; subst eo106; obtain ⟨Ao107, co107, eo107⟩ := Kd.S_slice zlb.out; subst eo107; obtain ⟨Ao108, co108, eo108⟩ := Kd.R_slice zpb.out; subst eo108) | ((with_reducible refine zo (f := 19) rfl ?_); refine zC (some 69) rfl rfl Try.func19 (by kernel_rfl) rfl #[.agg #[.slice Ao106 t414.length co106, .slice Ao107 t417.length co107], .slice Ao108 t420.length co108] rfl (by (try simp only [List.map_toArray, List.map_cons, List.map_nil]); first | done | rfl) ?_; (with_reducible refine (impl_DiskCrash.calls kj2 _ _ t414 _ _ t417 _ _ t420 t423 t426 _ ?side1 ?side2 ?side3 ?side4 ?side5 ?side6 A81.out).mono ?_); (case side1 => repeat (first | exact (Kd.R_reads' zkb.out).2.2 | (with_reducible refine Kd.C_alloc ?_ _) | (with_reducible refine Kd.C_drewN ?_ _) | (with_reducible refine Kd.C_drew ?_))); (case side2 => exact (Kd.R_reads' zkb.out).2.1); (case side3 => repeat (first | exact (Kd.S_reads' zlb.out).2.2 | (with_reducible refine Kd.C_alloc ?_ _) | (with_reducible refine Kd.C_drewN ?_ _) | (with_reducible refine Kd.C_drew ?_))); (case side4 => exact (Kd.S_reads' zlb.out).2.1); (case side5 => repeat (first | exact (Kd.R_reads' zpb.out).2.2 | (with_reducible refine Kd.C_alloc ?_ _) | (with_reducible refine Kd.C_drewN ?_ _) | (with_reducible refine Kd.C_drew ?_))); (case side6 => exact (Kd.R_reads' zpb.out).2.1); rintro e w109 ⟨v424, v427, rfl, zQ, zqb, hb⟩; refine ⟨_, rfl, ?_⟩; have n0_ := Aside0.mk (Kd.R_elder' (RL zX.out) (Kd.R_base zQ) hb); have n1_ := Aside0.mk (Kd.S_mono (Kd.S_told (Kd.S_told (Kd.S_old (SL zdb.out) hb) (Kd.R_base zQ)) (Kd.S_base zqb)) (fun _ h_ => h_.1)); have n2_ := Aside0.mk (Kd.Q_elder' (QL zV.out) (Kd.R_base zQ) hb); have n3_ := Aside0.mk (Kd.R_elder' (RL zW.out) (Kd.R_base zQ) hb); have n4_ := Aside0.mk (Kd.S_mono (Kd.S_told (Kd.S_told (Kd.S_old (SL zcb.out) hb) (Kd.R_base zQ)) (Kd.S_base zqb)) (fun _ h_ => h_.1)); have n5_ := Aside0.mk (Kd.R_elder' (RL zfb.out) (Kd.R_base zQ) hb); have n6_ := Aside0.mk (Kd.S_mono (Kd.S_told (Kd.S_told (Kd.S_old (SL zhb.out) hb) (Kd.R_base zQ)) (Kd.S_base zqb)) (fun _ h_ => h_.1)); have n7_ := Aside0.mk (Kd.Q_elder' (QL zZ.out) (Kd.R_base zQ) hb); have n8_ := Aside0.mk (Kd.R_elder' (RL zib.out) (Kd.R_base zQ) hb); have n9_ := Aside0.mk (Kd.S_mono (Kd.S_told (Kd.S_told (Kd.S_old (SL zjb.out) hb) (Kd.R_base zQ)) (Kd.S_base zqb)) (fun _ h_ => h_.1)); have n10_ := Aside0.mk (Kd.R_elder' (RL zkb.out) (Kd.R_base zQ) hb); have n11_ := Aside0.mk (Kd.S_mono (Kd.S_told (Kd.S_told (Kd.S_old (SL zlb.out) hb) (Kd.R_base zQ)) (Kd.S_base zqb)) (fun _ h_ => h_.1)); have n12_ := Aside0.mk (Kd.R_below (RL zpb.out) hb); have n13_ := Aside0.mk (Kd.R_lower (Kd.R_new' (Kd.R_new' (Kd.R_new' (Kd.R_new' (Kd.R_new' (Kd.R_new' (Kd.R_new' zQ (Kd.R_lt (RL zX.out))) (Kd.Q_lt (QL zV.out))) (Kd.R_lt (RL zW.out))) (Kd.R_lt (RL zfb.out))) (Kd.Q_lt (QL zZ.out))) (Kd.R_lt (RL zib.out))) (Kd.R_lt (RL zkb.out))) (zm (by exact bl HB.out))); have n14_ := Aside0.mk (Kd.S_lower (Kd.S_new' (Kd.S_new' (Kd.S_new' (Kd.S_new' (Kd.S_new' (Kd.S_new' (Kd.S_new' (Kd.S_new' (Kd.S_new' (Kd.S_new' (Kd.S_new' (Kd.S_new' zqb (Kd.R_lt (RL zX.out))) (Kd.S_lt (SL zdb.out))) (Kd.Q_lt (QL zV.out))) (Kd.R_lt (RL zW.out))) (Kd.S_lt (SL zcb.out))) (Kd.R_lt (RL zfb.out))) (Kd.S_lt (SL zhb.out))) (Kd.Q_lt (QL zZ.out))) (Kd.R_lt (RL zib.out))) (Kd.S_lt (SL zjb.out))) (Kd.R_lt (RL zkb.out))) (Kd.S_lt (SL zlb.out))) (zm (by exact bl HB.out))); have n15_ := Aside0.mk (zl (g := zR) (o := .cells #[.slice Ao97 t395.length co97, .slice Ao99 t398.length co99] 35 (0, 0)) (BL zH.out) hb); have n16_ := Aside0.mk (zl (g := zU) (o := .cells #[.slice Ao92 t388.length co92, .slice Ao95 t391.length co95] 35 (0, 0)) (BL zI.out) hb); have n17_ := Aside0.mk (zk (by exact bl HB.out) hb); clear zX; clear zdb; clear zV; clear zW; clear zcb; clear zfb; clear zhb; clear zZ; clear zib; clear zjb; clear zkb; clear zlb; clear zpb; clear zH; clear zI; clear HB; have zX := n0_; have zdb := n1_; have zV := n2_; have zW := n3_; have zcb := n4_; have zfb := n5_; have zhb := n6_; have zZ := n7_; have zib := n8_; have zjb := n9_; have zkb := n10_; have zlb := n11_; have zpb := n12_; have zmb := n13_; have znb := n14_; have zH := n15_; have zI := n16_; have HB := n17_; clear n0_ n1_ n2_ n3_ n4_ n5_ n6_ n7_ n8_ n9_ n10_ n11_ n12_ n13_ n14_ n15_ n16_ n17_; (try clear hb); (try clear hb2); (try clear hk); (try clear hi); (try clear zQ); (try clear zqb)) | ((with_reducible refine zt (N := 9) rfl ?_); (try (refine gate_guard (by rfl) ?_; dsimp only)); refine zF ?hg (N := 9) ?hd (cs := #[.slice none 0 0, .slice none 0 0]) (t := 35) ?hr ?_; (case hd => rfl); (case hg => rfl); (case hr => first | (go_simp; done) | (go_simp; rfl)); intro zG hg w110 hbox hb; have n0_ := Aside0.mk (Kd.R_below (RL zX.out) hb); have n1_ := Aside0.mk (Kd.S_below (SL zdb.out) hb); have n2_ := Aside0.mk (Kd.Q_below (QL zV.out) hb); have n3_ := Aside0.mk (Kd.R_below (RL zW.out) hb); have n4_ := Aside0.mk (Kd.S_below (SL zcb.out) hb); have n5_ := Aside0.mk (Kd.R_below (RL zfb.out) hb); have n6_ := Aside0.mk (Kd.S_below (SL zhb.out) hb); have n7_ := Aside0.mk (Kd.Q_below (QL zZ.out) hb); have n8_ := Aside0.mk (Kd.R_below (RL zib.out) hb); have n9_ := Aside0.mk (Kd.S_below (SL zjb.out) hb); have n10_ := Aside0.mk (Kd.R_below (RL zkb.out) hb); have n11_ := Aside0.mk (Kd.S_below (SL zlb.out) hb); have n12_ := Aside0.mk (Kd.R_below (RL zpb.out) hb); have n13_ := Aside0.mk (Kd.R_below (RL zmb.out) hb); have n14_ := Aside0.mk (Kd.S_below (SL znb.out) hb); have n15_ := Aside0.mk (zl (g := zR) (o := .cells #[.slice Ao97 t395.length co97, .slice Ao99 t398.length co99] 35 (0, 0)) (BL zH.out) hb); have n16_ := Aside0.mk (zl (g := zU) (o := .cells #[.slice Ao92 t388.length co92, .slice Ao95 t391.length co95] 35 (0, 0)) (BL zI.out) hb); have n17_ := Aside0.mk (zk (by exact bl HB.out) hb); have n18_ := Aside0.mk (hbox); have n19_ := Aside0.mk ((by rw [hg]; exact (zm (by exact bl HB.out)) : w.heap.size ≤ zG)); have n20_ := Aside0.mk ((by rw [hg]; exact (zm (by exact bl HB.out)) : w.heap.size ≤ zG)); have n21_ := Aside0.mk ((by rw [hg]; exact Nat.ne_of_lt (zr (g := zR) (o := .cells #[.slice Ao97 t395.length co97, .slice Ao99 t398.length co99] 35 (0, 0)) (BL zH.out)) : zR ≠ zG)); have n22_ := Aside0.mk ((by rw [hg]; exact Nat.ne_of_gt (zr (g := zR) (o := .cells #[.slice Ao97 t395.length co97, .slice Ao99 t398.length co99] 35 (0, 0)) (BL zH.out)) : zG ≠ zR)); have n23_ := Aside0.mk ((by rw [hg]; exact Nat.ne_of_lt (zr (g := zU) (o := .cells #[.slice Ao92 t388.length co92, .slice Ao95 t391.length co95] 35 (0, 0)) (BL zI.out)) : zU ≠ zG)); have n24_ := Aside0.mk ((by rw [hg]; exact Nat.ne_of_gt (zr (g := zU) (o := .cells #[.slice Ao92 t388.length co92, .slice Ao95 t391.length co95] 35 (0, 0)) (BL zI.out)) : zG ≠ zU)); clear zX; clear zdb; clear zV; clear zW; clear zcb; clear zfb; clear zhb; clear zZ; clear zib; clear zjb; clear zkb; clear zlb; clear zpb; clear zmb; clear znb; clear zH; clear zI; clear HB; have zX := n0_; have zdb := n1_; have zV := n2_; have zW := n3_; have zcb := n4_; have zfb := n5_; have zhb := n6_; have zZ := n7_; have zib := n8_; have zjb := n9_; have zkb := n10_; have zlb := n11_; have zpb := n12_; have zmb := n13_; have znb := n14_; have zH := n15_; have zI := n16_; have HB := n17_; have zJ := n18_; have GW429 := n19_; have zgb := n20_; have zvb := n21_; have zCb := n22_; have zFb := n23_; have zNb := n24_; clear n0_ n1_ n2_ n3_ n4_ n5_ n6_ n7_ n8_ n9_ n10_ n11_ n12_ n13_ n14_ n15_ n16_ n17_ n18_ n19_ n20_ n21_ n22_ n23_ n24_; clear hb hbox hg; obtain ⟨Ao111, co111, eo111⟩ := Kd.R_slice zmb.out; subst eo111; have zIc := zCb.out; have zJc := zvb.out; have zKc := zNb.out; have zLc := zFb.out; have zUb : w110.cell? ⟨zG, 0, none⟩ = some (.slice none 0 0) := (zb zJ.out 0).trans rfl; have zVb : w110.cell? ⟨zG, 1, none⟩ = some (.slice none 0 0) := (zb zJ.out 1).trans rfl; have zWb := zd zJ.out 0; have zXb := zd zJ.out 1; obtain ⟨Ao115, co115, eo115⟩ := Kd.S_slice znb.out; subst eo115))
     (try simp only [Act.put, List.setIfInBounds_toArray, List.set_cons_zero, List.set_cons_succ])
     go_cut [85] (fun v85 wc => ∃ (kq : Nat) (x85_81 : Bool), v85 = .bool x85_81 ∧ Aside0 (laws_FnSync.j1 kq l1 t401 x85_81 t395 t398 t388 t391 = some r) ∧ Aside0 (kq ≤ kj2) ∧ Aside0 (Kd.R (Kd.int .u8) 5 wc w.heap.size (fun k_ => some k_ ≠ ((.slice Ao92 t388.length co92) : Value).ownBlock ∧ some k_ ≠ ((.slice Ao111 t423.length co111) : Value).ownBlock) (.slice Ao97 t395.length co97) t395) ∧ Aside0 (Kd.S k45 45 wc w.heap.size (fun k_ => some k_ ≠ ((.slice Ao97 t395.length co97) : Value).ownBlock ∧ some k_ ≠ ((.slice Ao92 t388.length co92) : Value).ownBlock ∧ some k_ ≠ ((.slice Ao95 t391.length co95) : Value).ownBlock ∧ some k_ ≠ ((.slice Ao111 t423.length co111) : Value).ownBlock ∧ some k_ ≠ ((.slice Ao115 t426.length co115) : Value).ownBlock) (.slice Ao99 t398.length co99) t398) ∧ Aside0 (Kd.R (Kd.int .u8) 5 wc w.heap.size (fun k_ => some k_ ≠ ((.slice Ao97 t395.length co97) : Value).ownBlock ∧ some k_ ≠ ((.slice Ao111 t423.length co111) : Value).ownBlock) (.slice Ao92 t388.length co92) t388) ∧ Aside0 (Kd.S k45 45 wc w.heap.size (fun k_ => some k_ ≠ ((.slice Ao97 t395.length co97) : Value).ownBlock ∧ some k_ ≠ ((.slice Ao99 t398.length co99) : Value).ownBlock ∧ some k_ ≠ ((.slice Ao92 t388.length co92) : Value).ownBlock ∧ some k_ ≠ ((.slice Ao111 t423.length co111) : Value).ownBlock ∧ some k_ ≠ ((.slice Ao115 t426.length co115) : Value).ownBlock) (.slice Ao95 t391.length co95) t391) ∧ Aside0 (Kd.R (Kd.int .u8) 5 wc w.heap.size (fun k_ => some k_ ≠ ((.slice Ao97 t395.length co97) : Value).ownBlock ∧ some k_ ≠ ((.slice Ao92 t388.length co92) : Value).ownBlock) (.slice Ao111 t423.length co111) t423) ∧ Aside0 (Kd.S k45 45 wc w.heap.size (fun k_ => some k_ ≠ ((.slice Ao97 t395.length co97) : Value).ownBlock ∧ some k_ ≠ ((.slice Ao99 t398.length co99) : Value).ownBlock ∧ some k_ ≠ ((.slice Ao92 t388.length co92) : Value).ownBlock ∧ some k_ ≠ ((.slice Ao95 t391.length co95) : Value).ownBlock ∧ some k_ ≠ ((.slice Ao111 t423.length co111) : Value).ownBlock) (.slice Ao115 t426.length co115) t426) ∧ Aside0 (wc.heap[zR]? = some (.cells #[(.slice Ao97 t395.length co97), (.slice Ao99 t398.length co99)] 35 (0, 0))) ∧ Aside0 (wc.heap[zU]? = some (.cells #[(.slice Ao92 t388.length co92), (.slice Ao95 t391.length co95)] 35 (0, 0))) ∧ Aside0 (wc.heap[zG]? = some (.cells #[(.slice Ao111 t423.length co111), (.slice Ao115 t426.length co115)] 35 (0, 0))) ∧ Aside0 (Below w.heap.size w wc))
     case first =>
      have H := HC82.out
      clear HC82
      replace H := Option.bind_eq_some_iff.mp H
      obtain ⟨t430, A1160, H⟩ := H
      replace H : (if (strOfNums t430).toList = (strOfNums t402).toList then ((impl_DiskRead.f kj2 t388 t391 t401).bind fun t433 => (laws_FnSync.j1 kj2 l1 t401 ((strOfNums t433).toList != (strOfNums t402).toList) t395 t398 t388 t391)) else (laws_FnSync.j1 kj2 l1 t401 true t395 t398 t388 t391)) = some r := H
      have A116 := Aside0.mk A1160
      clear A1160
      by_cases c117 : (strOfNums t430).toList = (strOfNums t402).toList
      ·rw [if_pos c117] at H
       have c117b0 : ((strOfNums t430).toList == (strOfNums t402).toList) = true := beq_iff_eq.mpr c117
       have c117b1 : ((strOfNums t430).toList != (strOfNums t402).toList) = false := bne_eq_false_iff_eq.mpr c117
       clear c117
       (first | rw [c117b0] | (simp only [zp, zq]; rw [c117b0]) | skip)
       replace H := Option.bind_eq_some_iff.mp H
       obtain ⟨t433, A1180, H⟩ := H
       replace H : (laws_FnSync.j1 kj2 l1 t401 ((strOfNums t433).toList != (strOfNums t402).toList) t395 t398 t388 t391) = some r := H
       have A118 := Aside0.mk A1180
       clear A1180
       have H' := Aside0.mk H
       clear H
       try go_wp2
       have n0_ : Aside0 (Kd.R (Kd.int .u8) 5 ((w110.setCell ⟨zG, 0, none⟩ (.slice Ao111 t423.length co111)).setCell ⟨zG, 1, none⟩ (.slice Ao115 t426.length co115)) w.heap.size (fun k_ => some k_ ≠ (.slice Ao89 t384.length co89 : Value).ownBlock ∧ some k_ ≠ (.slice Ao92 t388.length co92 : Value).ownBlock ∧ some k_ ≠ (.slice Ao97 t395.length co97 : Value).ownBlock ∧ some k_ ≠ (.slice Ao100 t402.length co100 : Value).ownBlock ∧ some k_ ≠ (.slice Ao102 t405.length co102 : Value).ownBlock ∧ some k_ ≠ (.slice Ao106 t414.length co106 : Value).ownBlock ∧ some k_ ≠ (.slice Ao111 t423.length co111 : Value).ownBlock) (.slice Ao85 t377.length co85) t377) := ⟨RL (Kd.R_mono (Kd.R_far (p := ⟨zG, 1, none⟩) (Kd.R_far (p := ⟨zG, 0, none⟩) (Kd.R_types zX.out zJ.out (by decide)) (fun _ hk => hk.2) (.slice Ao111 t423.length co111)) (fun _ hk => hk.2) (.slice Ao115 t426.length co115)) (fun _ hk => ⟨hk.1.1.1.1.1.1.1, ⟨hk.1.1.1.1.1.1.2, ⟨hk.1.1.1.1.1.2, ⟨hk.1.1.1.1.2, ⟨hk.1.1.1.2, ⟨hk.1.1.2, hk.1.2⟩⟩⟩⟩⟩⟩))⟩
       have n1_ : Aside0 (Kd.S k45 45 ((w110.setCell ⟨zG, 0, none⟩ (.slice Ao111 t423.length co111)).setCell ⟨zG, 1, none⟩ (.slice Ao115 t426.length co115)) w.heap.size (fun k_ => some k_ ≠ (.slice Ao85 t377.length co85 : Value).ownBlock ∧ some k_ ≠ (.slice Ao89 t384.length co89 : Value).ownBlock ∧ some k_ ≠ (.slice Ao92 t388.length co92 : Value).ownBlock ∧ some k_ ≠ (.slice Ao95 t391.length co95 : Value).ownBlock ∧ some k_ ≠ (.slice Ao97 t395.length co97 : Value).ownBlock ∧ some k_ ≠ (.slice Ao99 t398.length co99 : Value).ownBlock ∧ some k_ ≠ (.slice Ao100 t402.length co100 : Value).ownBlock ∧ some k_ ≠ (.slice Ao102 t405.length co102 : Value).ownBlock ∧ some k_ ≠ (v409 : Value).ownBlock ∧ some k_ ≠ (.slice Ao106 t414.length co106 : Value).ownBlock ∧ some k_ ≠ (.slice Ao107 t417.length co107 : Value).ownBlock ∧ some k_ ≠ (.slice Ao111 t423.length co111 : Value).ownBlock ∧ some k_ ≠ (.slice Ao115 t426.length co115 : Value).ownBlock) (.slice Ao87 t380.length co87) t380) := ⟨SL (Kd.S_mono (Kd.S_far (p := ⟨zG, 1, none⟩) (Kd.S_far (p := ⟨zG, 0, none⟩) (Kd.S_types zdb.out zJ.out (by decide)) (fun _ hk => hk.2) (.slice Ao111 t423.length co111)) (fun _ hk => hk.2) (.slice Ao115 t426.length co115)) (fun _ hk => ⟨hk.1.1.1.1.1.1.1.1.1.1.1.1.1, ⟨hk.1.1.1.1.1.1.1.1.1.1.1.1.2, ⟨hk.1.1.1.1.1.1.1.1.1.1.1.2, ⟨hk.1.1.1.1.1.1.1.1.1.1.2, ⟨hk.1.1.1.1.1.1.1.1.1.2, ⟨hk.1.1.1.1.1.1.1.1.2, ⟨hk.1.1.1.1.1.1.1.2, ⟨hk.1.1.1.1.1.1.2, ⟨hk.1.1.1.1.1.2, ⟨hk.1.1.1.1.2, ⟨hk.1.1.1.2, ⟨hk.1.1.2, hk.1.2⟩⟩⟩⟩⟩⟩⟩⟩⟩⟩⟩⟩))⟩
       have n2_ : Aside0 (Kd.Q (Kd.int .u8) 5 ((w110.setCell ⟨zG, 0, none⟩ (.slice Ao111 t423.length co111)).setCell ⟨zG, 1, none⟩ (.slice Ao115 t426.length co115)) w.heap.size (fun k_ => some k_ ≠ (.slice Ao85 t377.length co85 : Value).ownBlock ∧ some k_ ≠ (.slice Ao92 t388.length co92 : Value).ownBlock ∧ some k_ ≠ (.slice Ao97 t395.length co97 : Value).ownBlock ∧ some k_ ≠ (.slice Ao100 t402.length co100 : Value).ownBlock ∧ some k_ ≠ (.slice Ao102 t405.length co102 : Value).ownBlock ∧ some k_ ≠ (.slice Ao106 t414.length co106 : Value).ownBlock ∧ some k_ ≠ (.slice Ao111 t423.length co111 : Value).ownBlock) (.slice Ao89 t384.length co89) t384) := ⟨QL (Kd.Q_mono (Kd.Q_far (p := ⟨zG, 1, none⟩) (Kd.Q_far (p := ⟨zG, 0, none⟩) (Kd.Q_types zV.out zJ.out (by decide)) (fun _ hk => hk.2) (.slice Ao111 t423.length co111)) (fun _ hk => hk.2) (.slice Ao115 t426.length co115)) (fun _ hk => ⟨hk.1.1.1.1.1.1.1, ⟨hk.1.1.1.1.1.1.2, ⟨hk.1.1.1.1.1.2, ⟨hk.1.1.1.1.2, ⟨hk.1.1.1.2, ⟨hk.1.1.2, hk.1.2⟩⟩⟩⟩⟩⟩))⟩
       have n3_ : Aside0 (Kd.R (Kd.int .u8) 5 ((w110.setCell ⟨zG, 0, none⟩ (.slice Ao111 t423.length co111)).setCell ⟨zG, 1, none⟩ (.slice Ao115 t426.length co115)) w.heap.size (fun k_ => some k_ ≠ (.slice Ao85 t377.length co85 : Value).ownBlock ∧ some k_ ≠ (.slice Ao89 t384.length co89 : Value).ownBlock ∧ some k_ ≠ (.slice Ao97 t395.length co97 : Value).ownBlock ∧ some k_ ≠ (.slice Ao100 t402.length co100 : Value).ownBlock ∧ some k_ ≠ (.slice Ao102 t405.length co102 : Value).ownBlock ∧ some k_ ≠ (.slice Ao106 t414.length co106 : Value).ownBlock ∧ some k_ ≠ (.slice Ao111 t423.length co111 : Value).ownBlock) (.slice Ao92 t388.length co92) t388) := ⟨RL (Kd.R_mono (Kd.R_far (p := ⟨zG, 1, none⟩) (Kd.R_far (p := ⟨zG, 0, none⟩) (Kd.R_types zW.out zJ.out (by decide)) (fun _ hk => hk.2) (.slice Ao111 t423.length co111)) (fun _ hk => hk.2) (.slice Ao115 t426.length co115)) (fun _ hk => ⟨hk.1.1.1.1.1.1.1.2, ⟨hk.1.1.1.1.1.1.2, ⟨hk.1.1.1.1.1.2, ⟨hk.1.1.1.1.2, ⟨hk.1.1.1.2, ⟨hk.1.1.2, hk.1.2⟩⟩⟩⟩⟩⟩))⟩
       have n4_ : Aside0 (Kd.S k45 45 ((w110.setCell ⟨zG, 0, none⟩ (.slice Ao111 t423.length co111)).setCell ⟨zG, 1, none⟩ (.slice Ao115 t426.length co115)) w.heap.size (fun k_ => some k_ ≠ (.slice Ao85 t377.length co85 : Value).ownBlock ∧ some k_ ≠ (.slice Ao87 t380.length co87 : Value).ownBlock ∧ some k_ ≠ (.slice Ao89 t384.length co89 : Value).ownBlock ∧ some k_ ≠ (.slice Ao92 t388.length co92 : Value).ownBlock ∧ some k_ ≠ (.slice Ao97 t395.length co97 : Value).ownBlock ∧ some k_ ≠ (.slice Ao99 t398.length co99 : Value).ownBlock ∧ some k_ ≠ (.slice Ao100 t402.length co100 : Value).ownBlock ∧ some k_ ≠ (.slice Ao102 t405.length co102 : Value).ownBlock ∧ some k_ ≠ (v409 : Value).ownBlock ∧ some k_ ≠ (.slice Ao106 t414.length co106 : Value).ownBlock ∧ some k_ ≠ (.slice Ao107 t417.length co107 : Value).ownBlock ∧ some k_ ≠ (.slice Ao111 t423.length co111 : Value).ownBlock ∧ some k_ ≠ (.slice Ao115 t426.length co115 : Value).ownBlock) (.slice Ao95 t391.length co95) t391) := ⟨SL (Kd.S_mono (Kd.S_far (p := ⟨zG, 1, none⟩) (Kd.S_far (p := ⟨zG, 0, none⟩) (Kd.S_types zcb.out zJ.out (by decide)) (fun _ hk => hk.2) (.slice Ao111 t423.length co111)) (fun _ hk => hk.2) (.slice Ao115 t426.length co115)) (fun _ hk => ⟨hk.1.1.1.1.1.1.1.1.1.1.1.1.2, ⟨hk.1.1.1.1.1.1.1.1.1.1.1.2, ⟨hk.1.1.1.1.1.1.1.1.1.1.2, ⟨hk.1.1.1.1.1.1.1.1.1.1.1.1.1, ⟨hk.1.1.1.1.1.1.1.1.1.2, ⟨hk.1.1.1.1.1.1.1.1.2, ⟨hk.1.1.1.1.1.1.1.2, ⟨hk.1.1.1.1.1.1.2, ⟨hk.1.1.1.1.1.2, ⟨hk.1.1.1.1.2, ⟨hk.1.1.1.2, ⟨hk.1.1.2, hk.1.2⟩⟩⟩⟩⟩⟩⟩⟩⟩⟩⟩⟩))⟩
       have n5_ : Aside0 (Kd.R (Kd.int .u8) 5 ((w110.setCell ⟨zG, 0, none⟩ (.slice Ao111 t423.length co111)).setCell ⟨zG, 1, none⟩ (.slice Ao115 t426.length co115)) w.heap.size (fun k_ => some k_ ≠ (.slice Ao85 t377.length co85 : Value).ownBlock ∧ some k_ ≠ (.slice Ao89 t384.length co89 : Value).ownBlock ∧ some k_ ≠ (.slice Ao92 t388.length co92 : Value).ownBlock ∧ some k_ ≠ (.slice Ao100 t402.length co100 : Value).ownBlock ∧ some k_ ≠ (.slice Ao102 t405.length co102 : Value).ownBlock ∧ some k_ ≠ (.slice Ao106 t414.length co106 : Value).ownBlock ∧ some k_ ≠ (.slice Ao111 t423.length co111 : Value).ownBlock) (.slice Ao97 t395.length co97) t395) := ⟨RL (Kd.R_mono (Kd.R_far (p := ⟨zG, 1, none⟩) (Kd.R_far (p := ⟨zG, 0, none⟩) (Kd.R_types zfb.out zJ.out (by decide)) (fun _ hk => hk.2) (.slice Ao111 t423.length co111)) (fun _ hk => hk.2) (.slice Ao115 t426.length co115)) (fun _ hk => ⟨hk.1.1.1.1.1.1.2, ⟨hk.1.1.1.1.1.2, ⟨hk.1.1.1.1.2, ⟨hk.1.1.1.1.1.1.1, ⟨hk.1.1.1.2, ⟨hk.1.1.2, hk.1.2⟩⟩⟩⟩⟩⟩))⟩
       have n6_ : Aside0 (Kd.S k45 45 ((w110.setCell ⟨zG, 0, none⟩ (.slice Ao111 t423.length co111)).setCell ⟨zG, 1, none⟩ (.slice Ao115 t426.length co115)) w.heap.size (fun k_ => some k_ ≠ (.slice Ao85 t377.length co85 : Value).ownBlock ∧ some k_ ≠ (.slice Ao87 t380.length co87 : Value).ownBlock ∧ some k_ ≠ (.slice Ao89 t384.length co89 : Value).ownBlock ∧ some k_ ≠ (.slice Ao92 t388.length co92 : Value).ownBlock ∧ some k_ ≠ (.slice Ao95 t391.length co95 : Value).ownBlock ∧ some k_ ≠ (.slice Ao97 t395.length co97 : Value).ownBlock ∧ some k_ ≠ (.slice Ao100 t402.length co100 : Value).ownBlock ∧ some k_ ≠ (.slice Ao102 t405.length co102 : Value).ownBlock ∧ some k_ ≠ (v409 : Value).ownBlock ∧ some k_ ≠ (.slice Ao106 t414.length co106 : Value).ownBlock ∧ some k_ ≠ (.slice Ao107 t417.length co107 : Value).ownBlock ∧ some k_ ≠ (.slice Ao111 t423.length co111 : Value).ownBlock ∧ some k_ ≠ (.slice Ao115 t426.length co115 : Value).ownBlock) (.slice Ao99 t398.length co99) t398) := ⟨SL (Kd.S_mono (Kd.S_far (p := ⟨zG, 1, none⟩) (Kd.S_far (p := ⟨zG, 0, none⟩) (Kd.S_types zhb.out zJ.out (by decide)) (fun _ hk => hk.2) (.slice Ao111 t423.length co111)) (fun _ hk => hk.2) (.slice Ao115 t426.length co115)) (fun _ hk => ⟨hk.1.1.1.1.1.1.1.1.1.1.1.2, ⟨hk.1.1.1.1.1.1.1.1.1.1.2, ⟨hk.1.1.1.1.1.1.1.1.1.2, ⟨hk.1.1.1.1.1.1.1.1.2, ⟨hk.1.1.1.1.1.1.1.2, ⟨hk.1.1.1.1.1.1.1.1.1.1.1.1.1, ⟨hk.1.1.1.1.1.1.1.1.1.1.1.1.2, ⟨hk.1.1.1.1.1.1.2, ⟨hk.1.1.1.1.1.2, ⟨hk.1.1.1.1.2, ⟨hk.1.1.1.2, ⟨hk.1.1.2, hk.1.2⟩⟩⟩⟩⟩⟩⟩⟩⟩⟩⟩⟩))⟩
       have n7_ : Aside0 (Kd.Q (Kd.int .u8) 5 ((w110.setCell ⟨zG, 0, none⟩ (.slice Ao111 t423.length co111)).setCell ⟨zG, 1, none⟩ (.slice Ao115 t426.length co115)) w.heap.size (fun k_ => some k_ ≠ (.slice Ao85 t377.length co85 : Value).ownBlock ∧ some k_ ≠ (.slice Ao89 t384.length co89 : Value).ownBlock ∧ some k_ ≠ (.slice Ao92 t388.length co92 : Value).ownBlock ∧ some k_ ≠ (.slice Ao97 t395.length co97 : Value).ownBlock ∧ some k_ ≠ (.slice Ao102 t405.length co102 : Value).ownBlock ∧ some k_ ≠ (.slice Ao106 t414.length co106 : Value).ownBlock ∧ some k_ ≠ (.slice Ao111 t423.length co111 : Value).ownBlock) (.slice Ao100 t402.length co100) t402) := ⟨QL (Kd.Q_mono (Kd.Q_far (p := ⟨zG, 1, none⟩) (Kd.Q_far (p := ⟨zG, 0, none⟩) (Kd.Q_types zZ.out zJ.out (by decide)) (fun _ hk => hk.2) (.slice Ao111 t423.length co111)) (fun _ hk => hk.2) (.slice Ao115 t426.length co115)) (fun _ hk => ⟨hk.1.1.1.1.1.1.2, ⟨hk.1.1.1.1.1.2, ⟨hk.1.1.1.1.2, ⟨hk.1.1.1.1.1.1.1, ⟨hk.1.1.1.2, ⟨hk.1.1.2, hk.1.2⟩⟩⟩⟩⟩⟩))⟩
       have n8_ : Aside0 (Kd.R (Kd.int .u8) 5 ((w110.setCell ⟨zG, 0, none⟩ (.slice Ao111 t423.length co111)).setCell ⟨zG, 1, none⟩ (.slice Ao115 t426.length co115)) w.heap.size (fun k_ => some k_ ≠ (.slice Ao85 t377.length co85 : Value).ownBlock ∧ some k_ ≠ (.slice Ao89 t384.length co89 : Value).ownBlock ∧ some k_ ≠ (.slice Ao92 t388.length co92 : Value).ownBlock ∧ some k_ ≠ (.slice Ao97 t395.length co97 : Value).ownBlock ∧ some k_ ≠ (.slice Ao100 t402.length co100 : Value).ownBlock ∧ some k_ ≠ (.slice Ao106 t414.length co106 : Value).ownBlock ∧ some k_ ≠ (.slice Ao111 t423.length co111 : Value).ownBlock) (.slice Ao102 t405.length co102) t405) := ⟨RL (Kd.R_mono (Kd.R_far (p := ⟨zG, 1, none⟩) (Kd.R_far (p := ⟨zG, 0, none⟩) (Kd.R_types zib.out zJ.out (by decide)) (fun _ hk => hk.2) (.slice Ao111 t423.length co111)) (fun _ hk => hk.2) (.slice Ao115 t426.length co115)) (fun _ hk => ⟨hk.1.1.1.1.1.1.1.2, ⟨hk.1.1.1.1.1.1.2, ⟨hk.1.1.1.1.1.2, ⟨hk.1.1.1.1.2, ⟨hk.1.1.1.2, ⟨hk.1.1.2, hk.1.2⟩⟩⟩⟩⟩⟩))⟩
       have n9_ : Aside0 (Kd.S k45 45 ((w110.setCell ⟨zG, 0, none⟩ (.slice Ao111 t423.length co111)).setCell ⟨zG, 1, none⟩ (.slice Ao115 t426.length co115)) w.heap.size (fun k_ => some k_ ≠ (.slice Ao85 t377.length co85 : Value).ownBlock ∧ some k_ ≠ (.slice Ao87 t380.length co87 : Value).ownBlock ∧ some k_ ≠ (.slice Ao89 t384.length co89 : Value).ownBlock ∧ some k_ ≠ (.slice Ao92 t388.length co92 : Value).ownBlock ∧ some k_ ≠ (.slice Ao95 t391.length co95 : Value).ownBlock ∧ some k_ ≠ (.slice Ao97 t395.length co97 : Value).ownBlock ∧ some k_ ≠ (.slice Ao99 t398.length co99 : Value).ownBlock ∧ some k_ ≠ (.slice Ao100 t402.length co100 : Value).ownBlock ∧ some k_ ≠ (.slice Ao102 t405.length co102 : Value).ownBlock ∧ some k_ ≠ (.slice Ao106 t414.length co106 : Value).ownBlock ∧ some k_ ≠ (.slice Ao107 t417.length co107 : Value).ownBlock ∧ some k_ ≠ (.slice Ao111 t423.length co111 : Value).ownBlock ∧ some k_ ≠ (.slice Ao115 t426.length co115 : Value).ownBlock) v409 t408) := ⟨SL (Kd.S_mono (Kd.S_far (p := ⟨zG, 1, none⟩) (Kd.S_far (p := ⟨zG, 0, none⟩) (Kd.S_types zjb.out zJ.out (by decide)) (fun _ hk => hk.2) (.slice Ao111 t423.length co111)) (fun _ hk => hk.2) (.slice Ao115 t426.length co115)) (fun _ hk => ⟨hk.1.1.1.1.1.1.1.1.1.1.1.1.2, ⟨hk.1.1.1.1.1.1.1.1.1.1.1.2, ⟨hk.1.1.1.1.1.1.1.1.1.1.2, ⟨hk.1.1.1.1.1.1.1.1.1.2, ⟨hk.1.1.1.1.1.1.1.1.2, ⟨hk.1.1.1.1.1.1.1.2, ⟨hk.1.1.1.1.1.1.2, ⟨hk.1.1.1.1.1.2, ⟨hk.1.1.1.1.1.1.1.1.1.1.1.1.1, ⟨hk.1.1.1.1.2, ⟨hk.1.1.1.2, ⟨hk.1.1.2, hk.1.2⟩⟩⟩⟩⟩⟩⟩⟩⟩⟩⟩⟩))⟩
       have n10_ : Aside0 (Kd.R (Kd.int .u8) 5 ((w110.setCell ⟨zG, 0, none⟩ (.slice Ao111 t423.length co111)).setCell ⟨zG, 1, none⟩ (.slice Ao115 t426.length co115)) w.heap.size (fun k_ => some k_ ≠ (.slice Ao85 t377.length co85 : Value).ownBlock ∧ some k_ ≠ (.slice Ao89 t384.length co89 : Value).ownBlock ∧ some k_ ≠ (.slice Ao92 t388.length co92 : Value).ownBlock ∧ some k_ ≠ (.slice Ao97 t395.length co97 : Value).ownBlock ∧ some k_ ≠ (.slice Ao100 t402.length co100 : Value).ownBlock ∧ some k_ ≠ (.slice Ao102 t405.length co102 : Value).ownBlock ∧ some k_ ≠ (.slice Ao111 t423.length co111 : Value).ownBlock) (.slice Ao106 t414.length co106) t414) := ⟨RL (Kd.R_mono (Kd.R_far (p := ⟨zG, 1, none⟩) (Kd.R_far (p := ⟨zG, 0, none⟩) (Kd.R_types zkb.out zJ.out (by decide)) (fun _ hk => hk.2) (.slice Ao111 t423.length co111)) (fun _ hk => hk.2) (.slice Ao115 t426.length co115)) (fun _ hk => ⟨hk.1.1.1.1.1.1.1.2, ⟨hk.1.1.1.1.1.1.2, ⟨hk.1.1.1.1.1.2, ⟨hk.1.1.1.1.2, ⟨hk.1.1.1.2, ⟨hk.1.1.2, hk.1.2⟩⟩⟩⟩⟩⟩))⟩
       have n11_ : Aside0 (Kd.S k45 45 ((w110.setCell ⟨zG, 0, none⟩ (.slice Ao111 t423.length co111)).setCell ⟨zG, 1, none⟩ (.slice Ao115 t426.length co115)) w.heap.size (fun k_ => some k_ ≠ (.slice Ao85 t377.length co85 : Value).ownBlock ∧ some k_ ≠ (.slice Ao87 t380.length co87 : Value).ownBlock ∧ some k_ ≠ (.slice Ao89 t384.length co89 : Value).ownBlock ∧ some k_ ≠ (.slice Ao92 t388.length co92 : Value).ownBlock ∧ some k_ ≠ (.slice Ao95 t391.length co95 : Value).ownBlock ∧ some k_ ≠ (.slice Ao97 t395.length co97 : Value).ownBlock ∧ some k_ ≠ (.slice Ao99 t398.length co99 : Value).ownBlock ∧ some k_ ≠ (.slice Ao100 t402.length co100 : Value).ownBlock ∧ some k_ ≠ (.slice Ao102 t405.length co102 : Value).ownBlock ∧ some k_ ≠ (v409 : Value).ownBlock ∧ some k_ ≠ (.slice Ao106 t414.length co106 : Value).ownBlock ∧ some k_ ≠ (.slice Ao111 t423.length co111 : Value).ownBlock ∧ some k_ ≠ (.slice Ao115 t426.length co115 : Value).ownBlock) (.slice Ao107 t417.length co107) t417) := ⟨SL (Kd.S_mono (Kd.S_far (p := ⟨zG, 1, none⟩) (Kd.S_far (p := ⟨zG, 0, none⟩) (Kd.S_types zlb.out zJ.out (by decide)) (fun _ hk => hk.2) (.slice Ao111 t423.length co111)) (fun _ hk => hk.2) (.slice Ao115 t426.length co115)) (fun _ hk => ⟨hk.1.1.1.1.1.1.1.1.1.1.1.1.2, ⟨hk.1.1.1.1.1.1.1.1.1.1.1.2, ⟨hk.1.1.1.1.1.1.1.1.1.1.2, ⟨hk.1.1.1.1.1.1.1.1.1.2, ⟨hk.1.1.1.1.1.1.1.1.2, ⟨hk.1.1.1.1.1.1.1.2, ⟨hk.1.1.1.1.1.1.2, ⟨hk.1.1.1.1.1.2, ⟨hk.1.1.1.1.2, ⟨hk.1.1.1.2, ⟨hk.1.1.1.1.1.1.1.1.1.1.1.1.1, ⟨hk.1.1.2, hk.1.2⟩⟩⟩⟩⟩⟩⟩⟩⟩⟩⟩⟩))⟩
       have n12_ : Aside0 (Kd.R (Kd.int .i64) 2 ((w110.setCell ⟨zG, 0, none⟩ (.slice Ao111 t423.length co111)).setCell ⟨zG, 1, none⟩ (.slice Ao115 t426.length co115)) w.heap.size (fun _ => True) (.slice Ao108 t420.length co108) t420) := ⟨RL (Kd.R_mono (Kd.R_far (p := ⟨zG, 1, none⟩) (Kd.R_far (p := ⟨zG, 0, none⟩) (Kd.R_types zpb.out zJ.out (by decide)) (fun _ hk => hk.2) (.slice Ao111 t423.length co111)) (fun _ hk => hk.2) (.slice Ao115 t426.length co115)) (fun _ hk => trivial))⟩
       have n13_ : Aside0 (Kd.R (Kd.int .u8) 5 ((w110.setCell ⟨zG, 0, none⟩ (.slice Ao111 t423.length co111)).setCell ⟨zG, 1, none⟩ (.slice Ao115 t426.length co115)) w.heap.size (fun k_ => some k_ ≠ (.slice Ao85 t377.length co85 : Value).ownBlock ∧ some k_ ≠ (.slice Ao89 t384.length co89 : Value).ownBlock ∧ some k_ ≠ (.slice Ao92 t388.length co92 : Value).ownBlock ∧ some k_ ≠ (.slice Ao97 t395.length co97 : Value).ownBlock ∧ some k_ ≠ (.slice Ao100 t402.length co100 : Value).ownBlock ∧ some k_ ≠ (.slice Ao102 t405.length co102 : Value).ownBlock ∧ some k_ ≠ (.slice Ao106 t414.length co106 : Value).ownBlock) (.slice Ao111 t423.length co111) t423) := ⟨RL (Kd.R_mono (Kd.R_far (p := ⟨zG, 1, none⟩) (Kd.R_far (p := ⟨zG, 0, none⟩) (Kd.R_types zmb.out zJ.out (by decide)) (fun _ hk => hk.2) (.slice Ao111 t423.length co111)) (fun _ hk => hk.2) (.slice Ao115 t426.length co115)) (fun _ hk => ⟨hk.1.1.1.1.1.1.1.2, ⟨hk.1.1.1.1.1.1.2, ⟨hk.1.1.1.1.1.2, ⟨hk.1.1.1.1.2, ⟨hk.1.1.1.2, ⟨hk.1.1.2, hk.1.2⟩⟩⟩⟩⟩⟩))⟩
       have n14_ : Aside0 (Kd.S k45 45 ((w110.setCell ⟨zG, 0, none⟩ (.slice Ao111 t423.length co111)).setCell ⟨zG, 1, none⟩ (.slice Ao115 t426.length co115)) w.heap.size (fun k_ => some k_ ≠ (.slice Ao85 t377.length co85 : Value).ownBlock ∧ some k_ ≠ (.slice Ao87 t380.length co87 : Value).ownBlock ∧ some k_ ≠ (.slice Ao89 t384.length co89 : Value).ownBlock ∧ some k_ ≠ (.slice Ao92 t388.length co92 : Value).ownBlock ∧ some k_ ≠ (.slice Ao95 t391.length co95 : Value).ownBlock ∧ some k_ ≠ (.slice Ao97 t395.length co97 : Value).ownBlock ∧ some k_ ≠ (.slice Ao99 t398.length co99 : Value).ownBlock ∧ some k_ ≠ (.slice Ao100 t402.length co100 : Value).ownBlock ∧ some k_ ≠ (.slice Ao102 t405.length co102 : Value).ownBlock ∧ some k_ ≠ (v409 : Value).ownBlock ∧ some k_ ≠ (.slice Ao106 t414.length co106 : Value).ownBlock ∧ some k_ ≠ (.slice Ao107 t417.length co107 : Value).ownBlock ∧ some k_ ≠ (.slice Ao111 t423.length co111 : Value).ownBlock) (.slice Ao115 t426.length co115) t426) := ⟨SL (Kd.S_mono (Kd.S_far (p := ⟨zG, 1, none⟩) (Kd.S_far (p := ⟨zG, 0, none⟩) (Kd.S_types znb.out zJ.out (by decide)) (fun _ hk => hk.2) (.slice Ao111 t423.length co111)) (fun _ hk => hk.2) (.slice Ao115 t426.length co115)) (fun _ hk => ⟨hk.1.1.1.1.1.1.1.1.1.1.1.1.2, ⟨hk.1.1.1.1.1.1.1.1.1.1.1.2, ⟨hk.1.1.1.1.1.1.1.1.1.1.2, ⟨hk.1.1.1.1.1.1.1.1.1.2, ⟨hk.1.1.1.1.1.1.1.1.2, ⟨hk.1.1.1.1.1.1.1.2, ⟨hk.1.1.1.1.1.1.2, ⟨hk.1.1.1.1.1.2, ⟨hk.1.1.1.1.2, ⟨hk.1.1.1.2, ⟨hk.1.1.2, ⟨hk.1.2, hk.1.1.1.1.1.1.1.1.1.1.1.1.1⟩⟩⟩⟩⟩⟩⟩⟩⟩⟩⟩⟩))⟩
       have n15_ : Aside0 (((w110.setCell ⟨zG, 0, none⟩ (.slice Ao111 t423.length co111)).setCell ⟨zG, 1, none⟩ (.slice Ao115 t426.length co115)).heap[zR]? = some (.cells #[.slice Ao97 t395.length co97, .slice Ao99 t398.length co99] 35 (0, 0))) := ⟨by (with_reducible repeat (first | refine zj ?_ _ | refine zg ?_ | refine zh ?_ _)); refine zE ?_ zvb.out _; (with_reducible repeat (first | refine zj ?_ _ | refine zg ?_ | refine zh ?_ _)); refine zE ?_ zvb.out _; (with_reducible repeat (first | refine zj ?_ _ | refine zg ?_ | refine zh ?_ _)); exact zH.out⟩
       have n16_ : Aside0 (((w110.setCell ⟨zG, 0, none⟩ (.slice Ao111 t423.length co111)).setCell ⟨zG, 1, none⟩ (.slice Ao115 t426.length co115)).heap[zU]? = some (.cells #[.slice Ao92 t388.length co92, .slice Ao95 t391.length co95] 35 (0, 0))) := ⟨by (with_reducible repeat (first | refine zj ?_ _ | refine zg ?_ | refine zh ?_ _)); refine zE ?_ zFb.out _; (with_reducible repeat (first | refine zj ?_ _ | refine zg ?_ | refine zh ?_ _)); refine zE ?_ zFb.out _; (with_reducible repeat (first | refine zj ?_ _ | refine zg ?_ | refine zh ?_ _)); exact zI.out⟩
       have n17_ : Aside0 (((w110.setCell ⟨zG, 0, none⟩ (.slice Ao111 t423.length co111)).setCell ⟨zG, 1, none⟩ (.slice Ao115 t426.length co115)).heap[zG]? = some (.cells #[.slice Ao111 t423.length co111, .slice Ao115 t426.length co115] 35 (0, 0))) := ⟨by (with_reducible repeat (first | refine zj ?_ _ | refine zg ?_ | refine zh ?_ _)); refine zz (cs := #[.slice Ao111 t423.length co111, .slice none 0 0]) ?_ 1 _ rfl; (with_reducible repeat (first | refine zj ?_ _ | refine zg ?_ | refine zh ?_ _)); refine zz (cs := #[.slice none 0 0, .slice none 0 0]) ?_ 0 _ rfl; (with_reducible repeat (first | refine zj ?_ _ | refine zg ?_ | refine zh ?_ _)); exact zJ.out⟩
       have n18_ : Aside0 (Below w.heap.size w ((w110.setCell ⟨zG, 0, none⟩ (.slice Ao111 t423.length co111)).setCell ⟨zG, 1, none⟩ (.slice Ao115 t426.length co115))) := ⟨by repeat (first | (with_reducible first | exact HB.out | apply zf | apply ze | apply zi | refine zc ?_ zY.out | refine zc ?_ zbb.out | refine zc ?_ zgb.out) | exact HB.out)⟩
       (try clear zX)
       (try clear zdb)
       (try clear zV)
       (try clear zW)
       (try clear zcb)
       (try clear zfb)
       (try clear zhb)
       (try clear zZ)
       (try clear zib)
       (try clear zjb)
       (try clear zkb)
       (try clear zlb)
       (try clear zpb)
       (try clear zmb)
       (try clear znb)
       (try clear zH)
       (try clear zI)
       (try clear zJ)
       (try clear HB)
       generalize ((w110.setCell ⟨zG, 0, none⟩ (.slice Ao111 t423.length co111)).setCell ⟨zG, 1, none⟩ (.slice Ao115 t426.length co115)) = w119 at n0_ n1_ n2_ n3_ n4_ n5_ n6_ n7_ n8_ n9_ n10_ n11_ n12_ n13_ n14_ n15_ n16_ n17_ n18_ ⊢
       have zX := n0_
       have zdb := n1_
       have zV := n2_
       have zW := n3_
       have zcb := n4_
       have zfb := n5_
       have zhb := n6_
       have zZ := n7_
       have zib := n8_
       have zjb := n9_
       have zkb := n10_
       have zlb := n11_
       have zpb := n12_
       have zmb := n13_
       have znb := n14_
       have zH := n15_
       have zI := n16_
       have zJ := n17_
       have HB := n18_
       clear n0_ n1_ n2_ n3_ n4_ n5_ n6_ n7_ n8_ n9_ n10_ n11_ n12_ n13_ n14_ n15_ n16_ n17_ n18_
       have n0_ := Aside0.mk (Kd.R_drew zX.out)
       have n1_ := Aside0.mk (Kd.S_drew zdb.out)
       have n2_ := Aside0.mk (Kd.Q_drew zV.out)
       have n3_ := Aside0.mk (Kd.R_drew zW.out)
       have n4_ := Aside0.mk (Kd.S_drew zcb.out)
       have n5_ := Aside0.mk (Kd.R_drew zfb.out)
       have n6_ := Aside0.mk (Kd.S_drew zhb.out)
       have n7_ := Aside0.mk (Kd.Q_drew zZ.out)
       have n8_ := Aside0.mk (Kd.R_drew zib.out)
       have n9_ := Aside0.mk (Kd.S_drew zjb.out)
       have n10_ := Aside0.mk (Kd.R_drew zkb.out)
       have n11_ := Aside0.mk (Kd.S_drew zlb.out)
       have n12_ := Aside0.mk (Kd.R_drew zpb.out)
       have n13_ := Aside0.mk (Kd.R_drew zmb.out)
       have n14_ := Aside0.mk (Kd.S_drew znb.out)
       have n15_ := Aside0.mk (zg zH.out)
       have n16_ := Aside0.mk (zg zI.out)
       have n17_ := Aside0.mk (zg zJ.out)
       have n18_ := Aside0.mk (zi HB.out)
       clear zX
       clear zdb
       clear zV
       clear zW
       clear zcb
       clear zfb
       clear zhb
       clear zZ
       clear zib
       clear zjb
       clear zkb
       clear zlb
       clear zpb
       clear zmb
       clear znb
       clear zH
       clear zI
       clear zJ
       clear HB
       have zX := n0_
       have zdb := n1_
       have zV := n2_
       have zW := n3_
       have zcb := n4_
       have zfb := n5_
       have zhb := n6_
       have zZ := n7_
       have zib := n8_
       have zjb := n9_
       have zkb := n10_
       have zlb := n11_
       have zpb := n12_
       have zmb := n13_
       have znb := n14_
       have zH := n15_
       have zI := n16_
       have zJ := n17_
       have HB := n18_
       clear n0_ n1_ n2_ n3_ n4_ n5_ n6_ n7_ n8_ n9_ n10_ n11_ n12_ n13_ n14_ n15_ n16_ n17_ n18_
       refine start_ (n := 16) (S := fun w' => w'.cell? ⟨zG, 0, none⟩ = some (.slice Ao111 t423.length co111) ∧ w'.cell? ⟨zG, 1, none⟩ = some (.slice Ao115 t426.length co115) ∧ w'.cell? ⟨zU, 0, none⟩ = some (.slice Ao92 t388.length co92) ∧ w'.cell? ⟨zU, 1, none⟩ = some (.slice Ao95 t391.length co95) ∧ Kd.C (Kd.int .u8) w' Ao100 t402.length t402) (ds := []) #[false, false, false, false, false, false, false, false, false, false, false, false, false, false, false, false] (by kernel_rfl) rfl rfl ⟨(zb zJ.out 0).trans rfl, (zb zJ.out 1).trans rfl, (zb zI.out 0).trans rfl, (zb zI.out 1).trans rfl, (Kd.Q_reads' zZ.out).2.2⟩ (fun hHeld => ?_); refine with_tabW laws_FnSync.tab9 laws_FnSync.bits9 (fun HT_ HW_ => ?_)
       generalize w119.drew = w120 at zX zdb zV zW zcb zfb zhb zZ zib zjb zkb zlb zpb zmb znb zH zI zJ HB hHeld ⊢
       refine zA (i := 1) (N := some 71) (v := ?_) (a' := ?_) #[false, true, false, false, false, false, false, false, false, false, false, false, false, false, false, false] rfl rfl (zB HT_.out (by kernel_rfl)) (fun _ _ _ h => h) (Or.inl ⟨by rfl, ?_⟩) ?_ ?_
       rotate_left
       ·intro w'
        go_simp
        with_reducible rfl
       rotate_left
       ·simp only [Act.put, List.setIfInBounds_toArray, List.set_cons_zero, List.set_cons_succ, zp, zq]
        rfl
       refine zA (i := 4) (N := some 74) (v := ?_) (a' := ?_) #[false, true, false, false, true, false, false, false, false, false, false, false, false, false, false, false] rfl rfl (zB HT_.out (by kernel_rfl)) (fun _ _ _ h => h) (Or.inl ⟨by rfl, ?_⟩) ?_ ?_
       rotate_left
       ·intro w'
        go_simp
        with_reducible rfl
       rotate_left
       ·simp only [Act.put, List.setIfInBounds_toArray, List.set_cons_zero, List.set_cons_succ, zp, zq]
        rfl
       refine take_ (i := 5) (N := some 75) (v := ?_) (a' := ?_) #[false, true, false, false, true, true, false, false, false, false, false, false, false, false, false, false] rfl rfl (take_ofW HT_.out HW_.out (by kernel_rfl)) (fun _ _ _ h => h) (Or.inl ⟨by rfl, ?_⟩) hHeld ?_ ?_
       rotate_left
       ·rintro w' ⟨s0, s1, s2, s3, s4⟩
        have e_ := Kd.C_string (P := Try.prog) (c := co100) Try.underlying22 Try.underlying5 Try.underlying9 s4
        go_simp
        with_reducible rfl
       rotate_left
       ·simp only [Act.put, List.setIfInBounds_toArray, List.set_cons_zero, List.set_cons_succ, zp, zq]
        rfl
       refine take_ (i := 0) (N := some 70) (v := ?_) (a' := ?_) #[true, true, false, false, true, true, false, false, false, false, false, false, false, false, false, false] rfl rfl (take_ofW HT_.out HW_.out (by kernel_rfl)) (fun _ _ _ h => h) (Or.inl ⟨by rfl, ?_⟩) hHeld ?_ ?_
       rotate_left
       ·rintro w' ⟨s0, s1, s2, s3, s4⟩
        go_simp
        with_reducible rfl
       rotate_left
       ·simp only [Act.put, List.setIfInBounds_toArray, List.set_cons_zero, List.set_cons_succ, zp, zq]
        rfl
       refine one_ (i := 2) (N := some 72) #[true, true, true, false, true, true, false, false, false, false, false, false, false, false, false, false] rfl rfl (one_of HT_.out (by kernel_rfl)) (by decide) (fun K hK => ?_)
       refine goes_ Try.func18 (by kernel_rfl) rfl #[.agg #[.slice Ao111 t423.length co111, .slice Ao115 t426.length co115], .int .i64 t401] (by rfl) rfl rfl (by (try simp only [List.map_toArray, List.map_cons, List.map_nil]); first | done | rfl) ?_
       with_reducible refine (impl_DiskRead.calls kj2 _ _ t423 _ _ t426 t401 t430 _ ?side1 ?side2 ?side3 ?side4 A116.out).mono ?_
       (case side1 => repeat (first | exact (Kd.R_reads' zmb.out).2.2 | (with_reducible refine Kd.C_alloc ?_ _) | (with_reducible refine Kd.C_drewN ?_ _) | (with_reducible refine Kd.C_drew ?_)))
       (case side2 => exact (Kd.R_reads' zmb.out).2.1)
       (case side3 => repeat (first | exact (Kd.S_reads' znb.out).2.2 | (with_reducible refine Kd.C_alloc ?_ _) | (with_reducible refine Kd.C_drewN ?_ _) | (with_reducible refine Kd.C_drew ?_)))
       (case side4 => exact (Kd.S_reads' znb.out).2.1)
       rintro e w121 ⟨v431, rfl, zQ, hb⟩
       refine ⟨_, rfl, ?_⟩
       have n0_ := Aside0.mk (Kd.R_elder' (RL zX.out) (Kd.R_base zQ) hb)
       have n1_ := Aside0.mk (Kd.S_elder' (SL zdb.out) (Kd.R_base zQ) hb)
       have n2_ := Aside0.mk (Kd.Q_elder' (QL zV.out) (Kd.R_base zQ) hb)
       have n3_ := Aside0.mk (Kd.R_elder' (RL zW.out) (Kd.R_base zQ) hb)
       have n4_ := Aside0.mk (Kd.S_elder' (SL zcb.out) (Kd.R_base zQ) hb)
       have n5_ := Aside0.mk (Kd.R_elder' (RL zfb.out) (Kd.R_base zQ) hb)
       have n6_ := Aside0.mk (Kd.S_elder' (SL zhb.out) (Kd.R_base zQ) hb)
       have n7_ := Aside0.mk (Kd.Q_elder' (QL zZ.out) (Kd.R_base zQ) hb)
       have n8_ := Aside0.mk (Kd.R_elder' (RL zib.out) (Kd.R_base zQ) hb)
       have n9_ := Aside0.mk (Kd.S_elder' (SL zjb.out) (Kd.R_base zQ) hb)
       have n10_ := Aside0.mk (Kd.R_elder' (RL zkb.out) (Kd.R_base zQ) hb)
       have n11_ := Aside0.mk (Kd.S_elder' (SL zlb.out) (Kd.R_base zQ) hb)
       have n12_ := Aside0.mk (Kd.R_below (RL zpb.out) hb)
       have n13_ := Aside0.mk (Kd.R_elder' (RL zmb.out) (Kd.R_base zQ) hb)
       have n14_ := Aside0.mk (Kd.S_elder' (SL znb.out) (Kd.R_base zQ) hb)
       have n15_ := Aside0.mk (Kd.R_lower (Kd.R_new' (Kd.R_new' (Kd.R_new' (Kd.R_new' (Kd.R_new' (Kd.R_new' (Kd.R_new' (Kd.R_new' zQ (Kd.R_lt (RL zX.out))) (Kd.Q_lt (QL zV.out))) (Kd.R_lt (RL zW.out))) (Kd.R_lt (RL zfb.out))) (Kd.Q_lt (QL zZ.out))) (Kd.R_lt (RL zib.out))) (Kd.R_lt (RL zkb.out))) (Kd.R_lt (RL zmb.out))) (zm (by repeat (first | (with_reducible first | exact HB.out | apply zf | apply ze | apply zi | refine zc ?_ zY.out | refine zc ?_ zbb.out | refine zc ?_ zgb.out) | exact HB.out))))
       have n16_ := Aside0.mk (zl (g := zR) (o := .cells #[.slice Ao97 t395.length co97, .slice Ao99 t398.length co99] 35 (0, 0)) (BL zH.out) hb)
       have n17_ := Aside0.mk (zl (g := zU) (o := .cells #[.slice Ao92 t388.length co92, .slice Ao95 t391.length co95] 35 (0, 0)) (BL zI.out) hb)
       have n18_ := Aside0.mk (zl (g := zG) (o := .cells #[.slice Ao111 t423.length co111, .slice Ao115 t426.length co115] 35 (0, 0)) (BL zJ.out) hb)
       have n19_ := Aside0.mk (zk (by repeat (first | (with_reducible first | exact HB.out | apply zf | apply ze | apply zi | refine zc ?_ zY.out | refine zc ?_ zbb.out | refine zc ?_ zgb.out) | exact HB.out)) hb)
       clear zX
       clear zdb
       clear zV
       clear zW
       clear zcb
       clear zfb
       clear zhb
       clear zZ
       clear zib
       clear zjb
       clear zkb
       clear zlb
       clear zpb
       clear zmb
       clear znb
       clear zH
       clear zI
       clear zJ
       clear HB
       have zX := n0_
       have zdb := n1_
       have zV := n2_
       have zW := n3_
       have zcb := n4_
       have zfb := n5_
       have zhb := n6_
       have zZ := n7_
       have zib := n8_
       have zjb := n9_
       have zkb := n10_
       have zlb := n11_
       have zpb := n12_
       have zmb := n13_
       have znb := n14_
       have zHb := n15_
       have zH := n16_
       have zI := n17_
       have zJ := n18_
       have HB := n19_
       clear n0_ n1_ n2_ n3_ n4_ n5_ n6_ n7_ n8_ n9_ n10_ n11_ n12_ n13_ n14_ n15_ n16_ n17_ n18_ n19_
       (try clear hb)
       (try clear hb2)
       (try clear hk)
       (try clear hi)
       (try clear zQ)
       have hcv123 := q_string (P := Try.prog) Try.underlying22 Try.underlying5 Try.underlying9 zZ.out
       refine hK.out _ _ ⟨(zb zJ.out 0).trans rfl, (zb zJ.out 1).trans rfl, (zb zI.out 0).trans rfl, (zb zI.out 1).trans rfl, (Kd.Q_reads' zZ.out).2.2⟩ (fun hHeld => ?_)
       clear hK K
       refine norm_ (a' := ?_) ?_ ?_
       rotate_left
       ·show Act.put _ (some 72) _ = _
        simp only [Act.put, List.setIfInBounds_toArray, List.set_cons_zero, List.set_cons_succ, zp, zq]
        rfl
       refine one_ (i := 3) (N := some 73) #[true, true, true, true, true, true, false, false, false, false, false, false, false, false, false, false] rfl rfl (one_of HT_.out (by kernel_rfl)) (by decide) (fun K hK => ?_)
       have hcv122 := own_string (P := Try.prog) Try.underlying22 Try.underlying5 Try.underlying9 (Kd.own_of_R zHb.out)
       refine value_ (w1 := ?_) (v := ?_) (by rfl) rfl ?_ ?_
       rotate_left 2
       ·go_simp
        constructor
        ·rfl
        ·rfl
       clear hcv122
       refine hK.out _ _ ⟨(zb zJ.out 0).trans rfl, (zb zJ.out 1).trans rfl, (zb zI.out 0).trans rfl, (zb zI.out 1).trans rfl, (Kd.Q_reads' zZ.out).2.2⟩ (fun hHeld => ?_)
       clear hK K
       refine norm_ (a' := ?_) ?_ ?_
       rotate_left
       ·show Act.put _ (some 73) _ = _
        simp only [Act.put, List.setIfInBounds_toArray, List.set_cons_zero, List.set_cons_succ, zp, zq]
        rfl
       refine zA (i := 6) (N := some 76) (v := ?_) (a' := ?_) #[true, true, true, true, true, true, true, false, false, false, false, false, false, false, false, false] rfl rfl (zB HT_.out (by kernel_rfl)) (fun _ _ _ h => h) (Or.inl ⟨by rfl, ?_⟩) ?_ ?_
       rotate_left
       ·intro w'
        go_simp
        with_reducible rfl
       rotate_left
       ·simp only [Act.put, List.setIfInBounds_toArray, List.set_cons_zero, List.set_cons_succ, zp, zq]
        rfl
       refine zA (i := 7) (N := some 77) (v := ?_) (a' := ?_) #[true, true, true, true, true, true, true, true, false, false, false, false, false, false, false, false] rfl rfl (zB HT_.out (by kernel_rfl)) (fun _ _ _ h => h) (Or.inl ⟨by rfl, ?_⟩) ?_ ?_
       rotate_left
       ·intro w'
        go_simp
        with_reducible rfl
       rotate_left
       ·simp only [Act.put, List.setIfInBounds_toArray, List.set_cons_zero, List.set_cons_succ, zp, zq]
        rfl
       refine zA (i := 9) (N := some 79) (v := ?_) (a' := ?_) #[true, true, true, true, true, true, true, true, false, true, false, false, false, false, false, false] rfl rfl (zB HT_.out (by kernel_rfl)) (fun _ _ _ h => h) (Or.inl ⟨by rfl, ?_⟩) ?_ ?_
       rotate_left
       ·intro w'
        go_simp
        with_reducible rfl
       rotate_left
       ·simp only [Act.put, List.setIfInBounds_toArray, List.set_cons_zero, List.set_cons_succ, zp, zq]
        rfl
       refine zA (i := 12) (N := some 82) (v := ?_) (a' := ?_) #[true, true, true, true, true, true, true, true, false, true, false, false, true, false, false, false] rfl rfl (zB HT_.out (by kernel_rfl)) (fun _ _ _ h => h) (Or.inl ⟨by rfl, ?_⟩) ?_ ?_
       rotate_left
       ·intro w'
        go_simp
        with_reducible rfl
       rotate_left
       ·simp only [Act.put, List.setIfInBounds_toArray, List.set_cons_zero, List.set_cons_succ, zp, zq]
        rfl
       refine take_ (i := 13) (N := some 83) (v := ?_) (a' := ?_) #[true, true, true, true, true, true, true, true, false, true, false, false, true, true, false, false] rfl rfl (take_ofW HT_.out HW_.out (by kernel_rfl)) (fun _ _ _ h => h) (Or.inl ⟨by rfl, ?_⟩) hHeld ?_ ?_
       rotate_left
       ·rintro w' ⟨s0, s1, s2, s3, s4⟩
        have e_ := Kd.C_string (P := Try.prog) (c := co100) Try.underlying22 Try.underlying5 Try.underlying9 s4
        go_simp
        with_reducible rfl
       rotate_left
       ·simp only [Act.put, List.setIfInBounds_toArray, List.set_cons_zero, List.set_cons_succ, zp, zq]
        rfl
       refine take_ (i := 8) (N := some 78) (v := ?_) (a' := ?_) #[true, true, true, true, true, true, true, true, true, true, false, false, true, true, false, false] rfl rfl (take_ofW HT_.out HW_.out (by kernel_rfl)) (fun _ _ _ h => h) (Or.inl ⟨by rfl, ?_⟩) hHeld ?_ ?_
       rotate_left
       ·rintro w' ⟨s0, s1, s2, s3, s4⟩
        go_simp
        with_reducible rfl
       rotate_left
       ·simp only [Act.put, List.setIfInBounds_toArray, List.set_cons_zero, List.set_cons_succ, zp, zq]
        rfl
       refine one_ (i := 10) (N := some 80) #[true, true, true, true, true, true, true, true, true, true, true, false, true, true, false, false] rfl rfl (one_of HT_.out (by kernel_rfl)) (by decide) (fun K hK => ?_)
       refine goes_ Try.func18 (by kernel_rfl) rfl #[.agg #[.slice Ao92 t388.length co92, .slice Ao95 t391.length co95], .int .i64 t401] (by rfl) rfl rfl (by (try simp only [List.map_toArray, List.map_cons, List.map_nil]); first | done | rfl) ?_
       with_reducible refine (impl_DiskRead.calls kj2 _ _ t388 _ _ t391 t401 t433 _ ?side1 ?side2 ?side3 ?side4 A118.out).mono ?_
       (case side1 => repeat (first | exact (Kd.R_reads' zW.out).2.2 | (with_reducible refine Kd.C_alloc ?_ _) | (with_reducible refine Kd.C_drewN ?_ _) | (with_reducible refine Kd.C_drew ?_)))
       (case side2 => exact (Kd.R_reads' zW.out).2.1)
       (case side3 => repeat (first | exact (Kd.S_reads' zcb.out).2.2 | (with_reducible refine Kd.C_alloc ?_ _) | (with_reducible refine Kd.C_drewN ?_ _) | (with_reducible refine Kd.C_drew ?_)))
       (case side4 => exact (Kd.S_reads' zcb.out).2.1)
       rintro e w124 ⟨v434, rfl, zQ, hb⟩
       refine ⟨_, rfl, ?_⟩
       have n0_ := Aside0.mk (Kd.R_elder' (RL zX.out) (Kd.R_base zQ) hb)
       have n1_ := Aside0.mk (Kd.S_elder' (SL zdb.out) (Kd.R_base zQ) hb)
       have n2_ := Aside0.mk (Kd.Q_elder' (QL zV.out) (Kd.R_base zQ) hb)
       have n3_ := Aside0.mk (Kd.R_elder' (RL zW.out) (Kd.R_base zQ) hb)
       have n4_ := Aside0.mk (Kd.S_elder' (SL zcb.out) (Kd.R_base zQ) hb)
       have n5_ := Aside0.mk (Kd.R_elder' (RL zfb.out) (Kd.R_base zQ) hb)
       have n6_ := Aside0.mk (Kd.S_elder' (SL zhb.out) (Kd.R_base zQ) hb)
       have n7_ := Aside0.mk (Kd.Q_elder' (QL zZ.out) (Kd.R_base zQ) hb)
       have n8_ := Aside0.mk (Kd.R_elder' (RL zib.out) (Kd.R_base zQ) hb)
       have n9_ := Aside0.mk (Kd.S_elder' (SL zjb.out) (Kd.R_base zQ) hb)
       have n10_ := Aside0.mk (Kd.R_elder' (RL zkb.out) (Kd.R_base zQ) hb)
       have n11_ := Aside0.mk (Kd.S_elder' (SL zlb.out) (Kd.R_base zQ) hb)
       have n12_ := Aside0.mk (Kd.R_below (RL zpb.out) hb)
       have n13_ := Aside0.mk (Kd.R_elder' (RL zmb.out) (Kd.R_base zQ) hb)
       have n14_ := Aside0.mk (Kd.S_elder' (SL znb.out) (Kd.R_base zQ) hb)
       have n15_ := Aside0.mk (Kd.R_elder' (RL zHb.out) (Kd.R_base zQ) hb)
       have n16_ := Aside0.mk (Kd.R_lower (Kd.R_new' (Kd.R_new' (Kd.R_new' (Kd.R_new' (Kd.R_new' (Kd.R_new' (Kd.R_new' (Kd.R_new' (Kd.R_new' zQ (Kd.R_lt (RL zX.out))) (Kd.Q_lt (QL zV.out))) (Kd.R_lt (RL zW.out))) (Kd.R_lt (RL zfb.out))) (Kd.Q_lt (QL zZ.out))) (Kd.R_lt (RL zib.out))) (Kd.R_lt (RL zkb.out))) (Kd.R_lt (RL zmb.out))) (Kd.R_lt (RL zHb.out))) (zm (by repeat (first | (with_reducible first | exact HB.out | apply zf | apply ze | apply zi | refine zc ?_ zY.out | refine zc ?_ zbb.out | refine zc ?_ zgb.out) | exact HB.out))))
       have n17_ := Aside0.mk (zl (g := zR) (o := .cells #[.slice Ao97 t395.length co97, .slice Ao99 t398.length co99] 35 (0, 0)) (BL zH.out) hb)
       have n18_ := Aside0.mk (zl (g := zU) (o := .cells #[.slice Ao92 t388.length co92, .slice Ao95 t391.length co95] 35 (0, 0)) (BL zI.out) hb)
       have n19_ := Aside0.mk (zl (g := zG) (o := .cells #[.slice Ao111 t423.length co111, .slice Ao115 t426.length co115] 35 (0, 0)) (BL zJ.out) hb)
       have n20_ := Aside0.mk (zk (by repeat (first | (with_reducible first | exact HB.out | apply zf | apply ze | apply zi | refine zc ?_ zY.out | refine zc ?_ zbb.out | refine zc ?_ zgb.out) | exact HB.out)) hb)
       clear zX
       clear zdb
       clear zV
       clear zW
       clear zcb
       clear zfb
       clear zhb
       clear zZ
       clear zib
       clear zjb
       clear zkb
       clear zlb
       clear zpb
       clear zmb
       clear znb
       clear zHb
       clear zH
       clear zI
       clear zJ
       clear HB
       have zX := n0_
       have zdb := n1_
       have zV := n2_
       have zW := n3_
       have zcb := n4_
       have zfb := n5_
       have zhb := n6_
       have zZ := n7_
       have zib := n8_
       have zjb := n9_
       have zkb := n10_
       have zlb := n11_
       have zpb := n12_
       have zmb := n13_
       have znb := n14_
       have zHb := n15_
       have zPb := n16_
       have zH := n17_
       have zI := n18_
       have zJ := n19_
       have HB := n20_
       clear n0_ n1_ n2_ n3_ n4_ n5_ n6_ n7_ n8_ n9_ n10_ n11_ n12_ n13_ n14_ n15_ n16_ n17_ n18_ n19_ n20_
       (try clear hb)
       (try clear hb2)
       (try clear hk)
       (try clear hi)
       (try clear zQ)
       have hcv126 := q_string (P := Try.prog) Try.underlying22 Try.underlying5 Try.underlying9 zZ.out
       refine hK.out _ _ ⟨(zb zJ.out 0).trans rfl, (zb zJ.out 1).trans rfl, (zb zI.out 0).trans rfl, (zb zI.out 1).trans rfl, (Kd.Q_reads' zZ.out).2.2⟩ (fun hHeld => ?_)
       clear hK K
       refine norm_ (a' := ?_) ?_ ?_
       rotate_left
       ·show Act.put _ (some 80) _ = _
        simp only [Act.put, List.setIfInBounds_toArray, List.set_cons_zero, List.set_cons_succ, zp, zq]
        rfl
       refine one_ (i := 11) (N := some 81) #[true, true, true, true, true, true, true, true, true, true, true, true, true, true, false, false] rfl rfl (one_of HT_.out (by kernel_rfl)) (by decide) (fun K hK => ?_)
       have hcv125 := own_string (P := Try.prog) Try.underlying22 Try.underlying5 Try.underlying9 (Kd.own_of_R zPb.out)
       refine value_ (w1 := ?_) (v := ?_) (by rfl) rfl ?_ ?_
       rotate_left 2
       ·go_simp
        constructor
        ·rfl
        ·rfl
       clear hcv125
       refine hK.out _ _ ⟨(zb zJ.out 0).trans rfl, (zb zJ.out 1).trans rfl, (zb zI.out 0).trans rfl, (zb zI.out 1).trans rfl, (Kd.Q_reads' zZ.out).2.2⟩ (fun hHeld => ?_)
       clear hK K
       refine norm_ (a' := ?_) ?_ ?_
       rotate_left
       ·show Act.put _ (some 81) _ = _
        simp only [Act.put, List.setIfInBounds_toArray, List.set_cons_zero, List.set_cons_succ, zp, zq]
        rfl
       refine zA (i := 14) (N := some 84) (v := ?_) (a' := ?_) #[true, true, true, true, true, true, true, true, true, true, true, true, true, true, true, false] rfl rfl (zB HT_.out (by kernel_rfl)) (fun _ _ _ h => h) (Or.inl ⟨by rfl, ?_⟩) ?_ ?_
       rotate_left
       ·intro w'
        go_simp
        with_reducible rfl
       rotate_left
       ·simp only [Act.put, List.setIfInBounds_toArray, List.set_cons_zero, List.set_cons_succ, zp, zq]
        rfl
       refine zA (i := 15) (N := some 85) (v := ?_) (a' := ?_) #[true, true, true, true, true, true, true, true, true, true, true, true, true, true, true, true] rfl rfl (zB HT_.out (by kernel_rfl)) (fun _ _ _ h => h) (Or.inl ⟨by rfl, ?_⟩) ?_ ?_
       rotate_left
       ·intro w'
        go_simp
        with_reducible rfl
       rotate_left
       ·simp only [Act.put, List.setIfInBounds_toArray, List.set_cons_zero, List.set_cons_succ, zp, zq]
        rfl
       refine done_ (done_of HT_.out (by kernel_rfl)) ?_
       try go_wp2
       go_meet
       case rel => exact ⟨_, (((strOfNums t433).toList != (strOfNums t402).toList)), (by first | rfl | (simp; done) | (simp [*]; done)), H', ⟨by have := HJ2.out; first | omega | exact Nat.le_refl _⟩, ⟨RL (Kd.R_mono zfb.out (fun _ hk => by simp only [ne_eq] at hk ⊢; simp only [hk, not_false_eq_true, and_self]))⟩, ⟨SL (Kd.S_mono zhb.out (fun _ hk => by simp only [ne_eq] at hk ⊢; simp only [hk, not_false_eq_true, and_self]))⟩, ⟨RL (Kd.R_mono zW.out (fun _ hk => by simp only [ne_eq] at hk ⊢; simp only [hk, not_false_eq_true, and_self]))⟩, ⟨SL (Kd.S_mono zcb.out (fun _ hk => by simp only [ne_eq] at hk ⊢; simp only [hk, not_false_eq_true, and_self]))⟩, ⟨RL (Kd.R_mono zmb.out (fun _ hk => by simp only [ne_eq] at hk ⊢; simp only [hk, not_false_eq_true, and_self]))⟩, ⟨SL (Kd.S_mono znb.out (fun _ hk => by simp only [ne_eq] at hk ⊢; simp only [hk, not_false_eq_true, and_self]))⟩, ⟨BL zH.out⟩, ⟨BL zI.out⟩, ⟨BL zJ.out⟩, ⟨by repeat (first | (with_reducible first | exact HB.out | apply zf | apply ze | apply zi | refine zc ?_ zY.out | refine zc ?_ zbb.out | refine zc ?_ zgb.out) | exact HB.out)⟩⟩
      ·rw [if_neg c117] at H
       have c117b0 : ((strOfNums t430).toList == (strOfNums t402).toList) = false := beq_eq_false_iff_ne.mpr c117
       have c117b1 : ((strOfNums t430).toList != (strOfNums t402).toList) = true := bne_iff_ne.mpr c117
       (first | rw [c117b0] | (simp only [zp, zq]; rw [c117b0]) | skip)
       have H' := Aside0.mk H
       clear H
       try go_wp2
       have n0_ : Aside0 (Kd.R (Kd.int .u8) 5 ((w110.setCell ⟨zG, 0, none⟩ (.slice Ao111 t423.length co111)).setCell ⟨zG, 1, none⟩ (.slice Ao115 t426.length co115)) w.heap.size (fun k_ => some k_ ≠ (.slice Ao89 t384.length co89 : Value).ownBlock ∧ some k_ ≠ (.slice Ao92 t388.length co92 : Value).ownBlock ∧ some k_ ≠ (.slice Ao97 t395.length co97 : Value).ownBlock ∧ some k_ ≠ (.slice Ao100 t402.length co100 : Value).ownBlock ∧ some k_ ≠ (.slice Ao102 t405.length co102 : Value).ownBlock ∧ some k_ ≠ (.slice Ao106 t414.length co106 : Value).ownBlock ∧ some k_ ≠ (.slice Ao111 t423.length co111 : Value).ownBlock) (.slice Ao85 t377.length co85) t377) := ⟨RL (Kd.R_mono (Kd.R_far (p := ⟨zG, 1, none⟩) (Kd.R_far (p := ⟨zG, 0, none⟩) (Kd.R_types zX.out zJ.out (by decide)) (fun _ hk => hk.2) (.slice Ao111 t423.length co111)) (fun _ hk => hk.2) (.slice Ao115 t426.length co115)) (fun _ hk => ⟨hk.1.1.1.1.1.1.1, ⟨hk.1.1.1.1.1.1.2, ⟨hk.1.1.1.1.1.2, ⟨hk.1.1.1.1.2, ⟨hk.1.1.1.2, ⟨hk.1.1.2, hk.1.2⟩⟩⟩⟩⟩⟩))⟩
       have n1_ : Aside0 (Kd.S k45 45 ((w110.setCell ⟨zG, 0, none⟩ (.slice Ao111 t423.length co111)).setCell ⟨zG, 1, none⟩ (.slice Ao115 t426.length co115)) w.heap.size (fun k_ => some k_ ≠ (.slice Ao85 t377.length co85 : Value).ownBlock ∧ some k_ ≠ (.slice Ao89 t384.length co89 : Value).ownBlock ∧ some k_ ≠ (.slice Ao92 t388.length co92 : Value).ownBlock ∧ some k_ ≠ (.slice Ao95 t391.length co95 : Value).ownBlock ∧ some k_ ≠ (.slice Ao97 t395.length co97 : Value).ownBlock ∧ some k_ ≠ (.slice Ao99 t398.length co99 : Value).ownBlock ∧ some k_ ≠ (.slice Ao100 t402.length co100 : Value).ownBlock ∧ some k_ ≠ (.slice Ao102 t405.length co102 : Value).ownBlock ∧ some k_ ≠ (v409 : Value).ownBlock ∧ some k_ ≠ (.slice Ao106 t414.length co106 : Value).ownBlock ∧ some k_ ≠ (.slice Ao107 t417.length co107 : Value).ownBlock ∧ some k_ ≠ (.slice Ao111 t423.length co111 : Value).ownBlock ∧ some k_ ≠ (.slice Ao115 t426.length co115 : Value).ownBlock) (.slice Ao87 t380.length co87) t380) := ⟨SL (Kd.S_mono (Kd.S_far (p := ⟨zG, 1, none⟩) (Kd.S_far (p := ⟨zG, 0, none⟩) (Kd.S_types zdb.out zJ.out (by decide)) (fun _ hk => hk.2) (.slice Ao111 t423.length co111)) (fun _ hk => hk.2) (.slice Ao115 t426.length co115)) (fun _ hk => ⟨hk.1.1.1.1.1.1.1.1.1.1.1.1.1, ⟨hk.1.1.1.1.1.1.1.1.1.1.1.1.2, ⟨hk.1.1.1.1.1.1.1.1.1.1.1.2, ⟨hk.1.1.1.1.1.1.1.1.1.1.2, ⟨hk.1.1.1.1.1.1.1.1.1.2, ⟨hk.1.1.1.1.1.1.1.1.2, ⟨hk.1.1.1.1.1.1.1.2, ⟨hk.1.1.1.1.1.1.2, ⟨hk.1.1.1.1.1.2, ⟨hk.1.1.1.1.2, ⟨hk.1.1.1.2, ⟨hk.1.1.2, hk.1.2⟩⟩⟩⟩⟩⟩⟩⟩⟩⟩⟩⟩))⟩
       have n2_ : Aside0 (Kd.Q (Kd.int .u8) 5 ((w110.setCell ⟨zG, 0, none⟩ (.slice Ao111 t423.length co111)).setCell ⟨zG, 1, none⟩ (.slice Ao115 t426.length co115)) w.heap.size (fun k_ => some k_ ≠ (.slice Ao85 t377.length co85 : Value).ownBlock ∧ some k_ ≠ (.slice Ao92 t388.length co92 : Value).ownBlock ∧ some k_ ≠ (.slice Ao97 t395.length co97 : Value).ownBlock ∧ some k_ ≠ (.slice Ao100 t402.length co100 : Value).ownBlock ∧ some k_ ≠ (.slice Ao102 t405.length co102 : Value).ownBlock ∧ some k_ ≠ (.slice Ao106 t414.length co106 : Value).ownBlock ∧ some k_ ≠ (.slice Ao111 t423.length co111 : Value).ownBlock) (.slice Ao89 t384.length co89) t384) := ⟨QL (Kd.Q_mono (Kd.Q_far (p := ⟨zG, 1, none⟩) (Kd.Q_far (p := ⟨zG, 0, none⟩) (Kd.Q_types zV.out zJ.out (by decide)) (fun _ hk => hk.2) (.slice Ao111 t423.length co111)) (fun _ hk => hk.2) (.slice Ao115 t426.length co115)) (fun _ hk => ⟨hk.1.1.1.1.1.1.1, ⟨hk.1.1.1.1.1.1.2, ⟨hk.1.1.1.1.1.2, ⟨hk.1.1.1.1.2, ⟨hk.1.1.1.2, ⟨hk.1.1.2, hk.1.2⟩⟩⟩⟩⟩⟩))⟩
       have n3_ : Aside0 (Kd.R (Kd.int .u8) 5 ((w110.setCell ⟨zG, 0, none⟩ (.slice Ao111 t423.length co111)).setCell ⟨zG, 1, none⟩ (.slice Ao115 t426.length co115)) w.heap.size (fun k_ => some k_ ≠ (.slice Ao85 t377.length co85 : Value).ownBlock ∧ some k_ ≠ (.slice Ao89 t384.length co89 : Value).ownBlock ∧ some k_ ≠ (.slice Ao97 t395.length co97 : Value).ownBlock ∧ some k_ ≠ (.slice Ao100 t402.length co100 : Value).ownBlock ∧ some k_ ≠ (.slice Ao102 t405.length co102 : Value).ownBlock ∧ some k_ ≠ (.slice Ao106 t414.length co106 : Value).ownBlock ∧ some k_ ≠ (.slice Ao111 t423.length co111 : Value).ownBlock) (.slice Ao92 t388.length co92) t388) := ⟨RL (Kd.R_mono (Kd.R_far (p := ⟨zG, 1, none⟩) (Kd.R_far (p := ⟨zG, 0, none⟩) (Kd.R_types zW.out zJ.out (by decide)) (fun _ hk => hk.2) (.slice Ao111 t423.length co111)) (fun _ hk => hk.2) (.slice Ao115 t426.length co115)) (fun _ hk => ⟨hk.1.1.1.1.1.1.1.2, ⟨hk.1.1.1.1.1.1.2, ⟨hk.1.1.1.1.1.2, ⟨hk.1.1.1.1.2, ⟨hk.1.1.1.2, ⟨hk.1.1.2, hk.1.2⟩⟩⟩⟩⟩⟩))⟩
       have n4_ : Aside0 (Kd.S k45 45 ((w110.setCell ⟨zG, 0, none⟩ (.slice Ao111 t423.length co111)).setCell ⟨zG, 1, none⟩ (.slice Ao115 t426.length co115)) w.heap.size (fun k_ => some k_ ≠ (.slice Ao85 t377.length co85 : Value).ownBlock ∧ some k_ ≠ (.slice Ao87 t380.length co87 : Value).ownBlock ∧ some k_ ≠ (.slice Ao89 t384.length co89 : Value).ownBlock ∧ some k_ ≠ (.slice Ao92 t388.length co92 : Value).ownBlock ∧ some k_ ≠ (.slice Ao97 t395.length co97 : Value).ownBlock ∧ some k_ ≠ (.slice Ao99 t398.length co99 : Value).ownBlock ∧ some k_ ≠ (.slice Ao100 t402.length co100 : Value).ownBlock ∧ some k_ ≠ (.slice Ao102 t405.length co102 : Value).ownBlock ∧ some k_ ≠ (v409 : Value).ownBlock ∧ some k_ ≠ (.slice Ao106 t414.length co106 : Value).ownBlock ∧ some k_ ≠ (.slice Ao107 t417.length co107 : Value).ownBlock ∧ some k_ ≠ (.slice Ao111 t423.length co111 : Value).ownBlock ∧ some k_ ≠ (.slice Ao115 t426.length co115 : Value).ownBlock) (.slice Ao95 t391.length co95) t391) := ⟨SL (Kd.S_mono (Kd.S_far (p := ⟨zG, 1, none⟩) (Kd.S_far (p := ⟨zG, 0, none⟩) (Kd.S_types zcb.out zJ.out (by decide)) (fun _ hk => hk.2) (.slice Ao111 t423.length co111)) (fun _ hk => hk.2) (.slice Ao115 t426.length co115)) (fun _ hk => ⟨hk.1.1.1.1.1.1.1.1.1.1.1.1.2, ⟨hk.1.1.1.1.1.1.1.1.1.1.1.2, ⟨hk.1.1.1.1.1.1.1.1.1.1.2, ⟨hk.1.1.1.1.1.1.1.1.1.1.1.1.1, ⟨hk.1.1.1.1.1.1.1.1.1.2, ⟨hk.1.1.1.1.1.1.1.1.2, ⟨hk.1.1.1.1.1.1.1.2, ⟨hk.1.1.1.1.1.1.2, ⟨hk.1.1.1.1.1.2, ⟨hk.1.1.1.1.2, ⟨hk.1.1.1.2, ⟨hk.1.1.2, hk.1.2⟩⟩⟩⟩⟩⟩⟩⟩⟩⟩⟩⟩))⟩
       have n5_ : Aside0 (Kd.R (Kd.int .u8) 5 ((w110.setCell ⟨zG, 0, none⟩ (.slice Ao111 t423.length co111)).setCell ⟨zG, 1, none⟩ (.slice Ao115 t426.length co115)) w.heap.size (fun k_ => some k_ ≠ (.slice Ao85 t377.length co85 : Value).ownBlock ∧ some k_ ≠ (.slice Ao89 t384.length co89 : Value).ownBlock ∧ some k_ ≠ (.slice Ao92 t388.length co92 : Value).ownBlock ∧ some k_ ≠ (.slice Ao100 t402.length co100 : Value).ownBlock ∧ some k_ ≠ (.slice Ao102 t405.length co102 : Value).ownBlock ∧ some k_ ≠ (.slice Ao106 t414.length co106 : Value).ownBlock ∧ some k_ ≠ (.slice Ao111 t423.length co111 : Value).ownBlock) (.slice Ao97 t395.length co97) t395) := ⟨RL (Kd.R_mono (Kd.R_far (p := ⟨zG, 1, none⟩) (Kd.R_far (p := ⟨zG, 0, none⟩) (Kd.R_types zfb.out zJ.out (by decide)) (fun _ hk => hk.2) (.slice Ao111 t423.length co111)) (fun _ hk => hk.2) (.slice Ao115 t426.length co115)) (fun _ hk => ⟨hk.1.1.1.1.1.1.2, ⟨hk.1.1.1.1.1.2, ⟨hk.1.1.1.1.2, ⟨hk.1.1.1.1.1.1.1, ⟨hk.1.1.1.2, ⟨hk.1.1.2, hk.1.2⟩⟩⟩⟩⟩⟩))⟩
       have n6_ : Aside0 (Kd.S k45 45 ((w110.setCell ⟨zG, 0, none⟩ (.slice Ao111 t423.length co111)).setCell ⟨zG, 1, none⟩ (.slice Ao115 t426.length co115)) w.heap.size (fun k_ => some k_ ≠ (.slice Ao85 t377.length co85 : Value).ownBlock ∧ some k_ ≠ (.slice Ao87 t380.length co87 : Value).ownBlock ∧ some k_ ≠ (.slice Ao89 t384.length co89 : Value).ownBlock ∧ some k_ ≠ (.slice Ao92 t388.length co92 : Value).ownBlock ∧ some k_ ≠ (.slice Ao95 t391.length co95 : Value).ownBlock ∧ some k_ ≠ (.slice Ao97 t395.length co97 : Value).ownBlock ∧ some k_ ≠ (.slice Ao100 t402.length co100 : Value).ownBlock ∧ some k_ ≠ (.slice Ao102 t405.length co102 : Value).ownBlock ∧ some k_ ≠ (v409 : Value).ownBlock ∧ some k_ ≠ (.slice Ao106 t414.length co106 : Value).ownBlock ∧ some k_ ≠ (.slice Ao107 t417.length co107 : Value).ownBlock ∧ some k_ ≠ (.slice Ao111 t423.length co111 : Value).ownBlock ∧ some k_ ≠ (.slice Ao115 t426.length co115 : Value).ownBlock) (.slice Ao99 t398.length co99) t398) := ⟨SL (Kd.S_mono (Kd.S_far (p := ⟨zG, 1, none⟩) (Kd.S_far (p := ⟨zG, 0, none⟩) (Kd.S_types zhb.out zJ.out (by decide)) (fun _ hk => hk.2) (.slice Ao111 t423.length co111)) (fun _ hk => hk.2) (.slice Ao115 t426.length co115)) (fun _ hk => ⟨hk.1.1.1.1.1.1.1.1.1.1.1.2, ⟨hk.1.1.1.1.1.1.1.1.1.1.2, ⟨hk.1.1.1.1.1.1.1.1.1.2, ⟨hk.1.1.1.1.1.1.1.1.2, ⟨hk.1.1.1.1.1.1.1.2, ⟨hk.1.1.1.1.1.1.1.1.1.1.1.1.1, ⟨hk.1.1.1.1.1.1.1.1.1.1.1.1.2, ⟨hk.1.1.1.1.1.1.2, ⟨hk.1.1.1.1.1.2, ⟨hk.1.1.1.1.2, ⟨hk.1.1.1.2, ⟨hk.1.1.2, hk.1.2⟩⟩⟩⟩⟩⟩⟩⟩⟩⟩⟩⟩))⟩
       have n7_ : Aside0 (Kd.Q (Kd.int .u8) 5 ((w110.setCell ⟨zG, 0, none⟩ (.slice Ao111 t423.length co111)).setCell ⟨zG, 1, none⟩ (.slice Ao115 t426.length co115)) w.heap.size (fun k_ => some k_ ≠ (.slice Ao85 t377.length co85 : Value).ownBlock ∧ some k_ ≠ (.slice Ao89 t384.length co89 : Value).ownBlock ∧ some k_ ≠ (.slice Ao92 t388.length co92 : Value).ownBlock ∧ some k_ ≠ (.slice Ao97 t395.length co97 : Value).ownBlock ∧ some k_ ≠ (.slice Ao102 t405.length co102 : Value).ownBlock ∧ some k_ ≠ (.slice Ao106 t414.length co106 : Value).ownBlock ∧ some k_ ≠ (.slice Ao111 t423.length co111 : Value).ownBlock) (.slice Ao100 t402.length co100) t402) := ⟨QL (Kd.Q_mono (Kd.Q_far (p := ⟨zG, 1, none⟩) (Kd.Q_far (p := ⟨zG, 0, none⟩) (Kd.Q_types zZ.out zJ.out (by decide)) (fun _ hk => hk.2) (.slice Ao111 t423.length co111)) (fun _ hk => hk.2) (.slice Ao115 t426.length co115)) (fun _ hk => ⟨hk.1.1.1.1.1.1.2, ⟨hk.1.1.1.1.1.2, ⟨hk.1.1.1.1.2, ⟨hk.1.1.1.1.1.1.1, ⟨hk.1.1.1.2, ⟨hk.1.1.2, hk.1.2⟩⟩⟩⟩⟩⟩))⟩
       have n8_ : Aside0 (Kd.R (Kd.int .u8) 5 ((w110.setCell ⟨zG, 0, none⟩ (.slice Ao111 t423.length co111)).setCell ⟨zG, 1, none⟩ (.slice Ao115 t426.length co115)) w.heap.size (fun k_ => some k_ ≠ (.slice Ao85 t377.length co85 : Value).ownBlock ∧ some k_ ≠ (.slice Ao89 t384.length co89 : Value).ownBlock ∧ some k_ ≠ (.slice Ao92 t388.length co92 : Value).ownBlock ∧ some k_ ≠ (.slice Ao97 t395.length co97 : Value).ownBlock ∧ some k_ ≠ (.slice Ao100 t402.length co100 : Value).ownBlock ∧ some k_ ≠ (.slice Ao106 t414.length co106 : Value).ownBlock ∧ some k_ ≠ (.slice Ao111 t423.length co111 : Value).ownBlock) (.slice Ao102 t405.length co102) t405) := ⟨RL (Kd.R_mono (Kd.R_far (p := ⟨zG, 1, none⟩) (Kd.R_far (p := ⟨zG, 0, none⟩) (Kd.R_types zib.out zJ.out (by decide)) (fun _ hk => hk.2) (.slice Ao111 t423.length co111)) (fun _ hk => hk.2) (.slice Ao115 t426.length co115)) (fun _ hk => ⟨hk.1.1.1.1.1.1.1.2, ⟨hk.1.1.1.1.1.1.2, ⟨hk.1.1.1.1.1.2, ⟨hk.1.1.1.1.2, ⟨hk.1.1.1.2, ⟨hk.1.1.2, hk.1.2⟩⟩⟩⟩⟩⟩))⟩
       have n9_ : Aside0 (Kd.S k45 45 ((w110.setCell ⟨zG, 0, none⟩ (.slice Ao111 t423.length co111)).setCell ⟨zG, 1, none⟩ (.slice Ao115 t426.length co115)) w.heap.size (fun k_ => some k_ ≠ (.slice Ao85 t377.length co85 : Value).ownBlock ∧ some k_ ≠ (.slice Ao87 t380.length co87 : Value).ownBlock ∧ some k_ ≠ (.slice Ao89 t384.length co89 : Value).ownBlock ∧ some k_ ≠ (.slice Ao92 t388.length co92 : Value).ownBlock ∧ some k_ ≠ (.slice Ao95 t391.length co95 : Value).ownBlock ∧ some k_ ≠ (.slice Ao97 t395.length co97 : Value).ownBlock ∧ some k_ ≠ (.slice Ao99 t398.length co99 : Value).ownBlock ∧ some k_ ≠ (.slice Ao100 t402.length co100 : Value).ownBlock ∧ some k_ ≠ (.slice Ao102 t405.length co102 : Value).ownBlock ∧ some k_ ≠ (.slice Ao106 t414.length co106 : Value).ownBlock ∧ some k_ ≠ (.slice Ao107 t417.length co107 : Value).ownBlock ∧ some k_ ≠ (.slice Ao111 t423.length co111 : Value).ownBlock ∧ some k_ ≠ (.slice Ao115 t426.length co115 : Value).ownBlock) v409 t408) := ⟨SL (Kd.S_mono (Kd.S_far (p := ⟨zG, 1, none⟩) (Kd.S_far (p := ⟨zG, 0, none⟩) (Kd.S_types zjb.out zJ.out (by decide)) (fun _ hk => hk.2) (.slice Ao111 t423.length co111)) (fun _ hk => hk.2) (.slice Ao115 t426.length co115)) (fun _ hk => ⟨hk.1.1.1.1.1.1.1.1.1.1.1.1.2, ⟨hk.1.1.1.1.1.1.1.1.1.1.1.2, ⟨hk.1.1.1.1.1.1.1.1.1.1.2, ⟨hk.1.1.1.1.1.1.1.1.1.2, ⟨hk.1.1.1.1.1.1.1.1.2, ⟨hk.1.1.1.1.1.1.1.2, ⟨hk.1.1.1.1.1.1.2, ⟨hk.1.1.1.1.1.2, ⟨hk.1.1.1.1.1.1.1.1.1.1.1.1.1, ⟨hk.1.1.1.1.2, ⟨hk.1.1.1.2, ⟨hk.1.1.2, hk.1.2⟩⟩⟩⟩⟩⟩⟩⟩⟩⟩⟩⟩))⟩
       have n10_ : Aside0 (Kd.R (Kd.int .u8) 5 ((w110.setCell ⟨zG, 0, none⟩ (.slice Ao111 t423.length co111)).setCell ⟨zG, 1, none⟩ (.slice Ao115 t426.length co115)) w.heap.size (fun k_ => some k_ ≠ (.slice Ao85 t377.length co85 : Value).ownBlock ∧ some k_ ≠ (.slice Ao89 t384.length co89 : Value).ownBlock ∧ some k_ ≠ (.slice Ao92 t388.length co92 : Value).ownBlock ∧ some k_ ≠ (.slice Ao97 t395.length co97 : Value).ownBlock ∧ some k_ ≠ (.slice Ao100 t402.length co100 : Value).ownBlock ∧ some k_ ≠ (.slice Ao102 t405.length co102 : Value).ownBlock ∧ some k_ ≠ (.slice Ao111 t423.length co111 : Value).ownBlock) (.slice Ao106 t414.length co106) t414) := ⟨RL (Kd.R_mono (Kd.R_far (p := ⟨zG, 1, none⟩) (Kd.R_far (p := ⟨zG, 0, none⟩) (Kd.R_types zkb.out zJ.out (by decide)) (fun _ hk => hk.2) (.slice Ao111 t423.length co111)) (fun _ hk => hk.2) (.slice Ao115 t426.length co115)) (fun _ hk => ⟨hk.1.1.1.1.1.1.1.2, ⟨hk.1.1.1.1.1.1.2, ⟨hk.1.1.1.1.1.2, ⟨hk.1.1.1.1.2, ⟨hk.1.1.1.2, ⟨hk.1.1.2, hk.1.2⟩⟩⟩⟩⟩⟩))⟩
       have n11_ : Aside0 (Kd.S k45 45 ((w110.setCell ⟨zG, 0, none⟩ (.slice Ao111 t423.length co111)).setCell ⟨zG, 1, none⟩ (.slice Ao115 t426.length co115)) w.heap.size (fun k_ => some k_ ≠ (.slice Ao85 t377.length co85 : Value).ownBlock ∧ some k_ ≠ (.slice Ao87 t380.length co87 : Value).ownBlock ∧ some k_ ≠ (.slice Ao89 t384.length co89 : Value).ownBlock ∧ some k_ ≠ (.slice Ao92 t388.length co92 : Value).ownBlock ∧ some k_ ≠ (.slice Ao95 t391.length co95 : Value).ownBlock ∧ some k_ ≠ (.slice Ao97 t395.length co97 : Value).ownBlock ∧ some k_ ≠ (.slice Ao99 t398.length co99 : Value).ownBlock ∧ some k_ ≠ (.slice Ao100 t402.length co100 : Value).ownBlock ∧ some k_ ≠ (.slice Ao102 t405.length co102 : Value).ownBlock ∧ some k_ ≠ (v409 : Value).ownBlock ∧ some k_ ≠ (.slice Ao106 t414.length co106 : Value).ownBlock ∧ some k_ ≠ (.slice Ao111 t423.length co111 : Value).ownBlock ∧ some k_ ≠ (.slice Ao115 t426.length co115 : Value).ownBlock) (.slice Ao107 t417.length co107) t417) := ⟨SL (Kd.S_mono (Kd.S_far (p := ⟨zG, 1, none⟩) (Kd.S_far (p := ⟨zG, 0, none⟩) (Kd.S_types zlb.out zJ.out (by decide)) (fun _ hk => hk.2) (.slice Ao111 t423.length co111)) (fun _ hk => hk.2) (.slice Ao115 t426.length co115)) (fun _ hk => ⟨hk.1.1.1.1.1.1.1.1.1.1.1.1.2, ⟨hk.1.1.1.1.1.1.1.1.1.1.1.2, ⟨hk.1.1.1.1.1.1.1.1.1.1.2, ⟨hk.1.1.1.1.1.1.1.1.1.2, ⟨hk.1.1.1.1.1.1.1.1.2, ⟨hk.1.1.1.1.1.1.1.2, ⟨hk.1.1.1.1.1.1.2, ⟨hk.1.1.1.1.1.2, ⟨hk.1.1.1.1.2, ⟨hk.1.1.1.2, ⟨hk.1.1.1.1.1.1.1.1.1.1.1.1.1, ⟨hk.1.1.2, hk.1.2⟩⟩⟩⟩⟩⟩⟩⟩⟩⟩⟩⟩))⟩
       have n12_ : Aside0 (Kd.R (Kd.int .i64) 2 ((w110.setCell ⟨zG, 0, none⟩ (.slice Ao111 t423.length co111)).setCell ⟨zG, 1, none⟩ (.slice Ao115 t426.length co115)) w.heap.size (fun _ => True) (.slice Ao108 t420.length co108) t420) := ⟨RL (Kd.R_mono (Kd.R_far (p := ⟨zG, 1, none⟩) (Kd.R_far (p := ⟨zG, 0, none⟩) (Kd.R_types zpb.out zJ.out (by decide)) (fun _ hk => hk.2) (.slice Ao111 t423.length co111)) (fun _ hk => hk.2) (.slice Ao115 t426.length co115)) (fun _ hk => trivial))⟩
       have n13_ : Aside0 (Kd.R (Kd.int .u8) 5 ((w110.setCell ⟨zG, 0, none⟩ (.slice Ao111 t423.length co111)).setCell ⟨zG, 1, none⟩ (.slice Ao115 t426.length co115)) w.heap.size (fun k_ => some k_ ≠ (.slice Ao85 t377.length co85 : Value).ownBlock ∧ some k_ ≠ (.slice Ao89 t384.length co89 : Value).ownBlock ∧ some k_ ≠ (.slice Ao92 t388.length co92 : Value).ownBlock ∧ some k_ ≠ (.slice Ao97 t395.length co97 : Value).ownBlock ∧ some k_ ≠ (.slice Ao100 t402.length co100 : Value).ownBlock ∧ some k_ ≠ (.slice Ao102 t405.length co102 : Value).ownBlock ∧ some k_ ≠ (.slice Ao106 t414.length co106 : Value).ownBlock) (.slice Ao111 t423.length co111) t423) := ⟨RL (Kd.R_mono (Kd.R_far (p := ⟨zG, 1, none⟩) (Kd.R_far (p := ⟨zG, 0, none⟩) (Kd.R_types zmb.out zJ.out (by decide)) (fun _ hk => hk.2) (.slice Ao111 t423.length co111)) (fun _ hk => hk.2) (.slice Ao115 t426.length co115)) (fun _ hk => ⟨hk.1.1.1.1.1.1.1.2, ⟨hk.1.1.1.1.1.1.2, ⟨hk.1.1.1.1.1.2, ⟨hk.1.1.1.1.2, ⟨hk.1.1.1.2, ⟨hk.1.1.2, hk.1.2⟩⟩⟩⟩⟩⟩))⟩
       have n14_ : Aside0 (Kd.S k45 45 ((w110.setCell ⟨zG, 0, none⟩ (.slice Ao111 t423.length co111)).setCell ⟨zG, 1, none⟩ (.slice Ao115 t426.length co115)) w.heap.size (fun k_ => some k_ ≠ (.slice Ao85 t377.length co85 : Value).ownBlock ∧ some k_ ≠ (.slice Ao87 t380.length co87 : Value).ownBlock ∧ some k_ ≠ (.slice Ao89 t384.length co89 : Value).ownBlock ∧ some k_ ≠ (.slice Ao92 t388.length co92 : Value).ownBlock ∧ some k_ ≠ (.slice Ao95 t391.length co95 : Value).ownBlock ∧ some k_ ≠ (.slice Ao97 t395.length co97 : Value).ownBlock ∧ some k_ ≠ (.slice Ao99 t398.length co99 : Value).ownBlock ∧ some k_ ≠ (.slice Ao100 t402.length co100 : Value).ownBlock ∧ some k_ ≠ (.slice Ao102 t405.length co102 : Value).ownBlock ∧ some k_ ≠ (v409 : Value).ownBlock ∧ some k_ ≠ (.slice Ao106 t414.length co106 : Value).ownBlock ∧ some k_ ≠ (.slice Ao107 t417.length co107 : Value).ownBlock ∧ some k_ ≠ (.slice Ao111 t423.length co111 : Value).ownBlock) (.slice Ao115 t426.length co115) t426) := ⟨SL (Kd.S_mono (Kd.S_far (p := ⟨zG, 1, none⟩) (Kd.S_far (p := ⟨zG, 0, none⟩) (Kd.S_types znb.out zJ.out (by decide)) (fun _ hk => hk.2) (.slice Ao111 t423.length co111)) (fun _ hk => hk.2) (.slice Ao115 t426.length co115)) (fun _ hk => ⟨hk.1.1.1.1.1.1.1.1.1.1.1.1.2, ⟨hk.1.1.1.1.1.1.1.1.1.1.1.2, ⟨hk.1.1.1.1.1.1.1.1.1.1.2, ⟨hk.1.1.1.1.1.1.1.1.1.2, ⟨hk.1.1.1.1.1.1.1.1.2, ⟨hk.1.1.1.1.1.1.1.2, ⟨hk.1.1.1.1.1.1.2, ⟨hk.1.1.1.1.1.2, ⟨hk.1.1.1.1.2, ⟨hk.1.1.1.2, ⟨hk.1.1.2, ⟨hk.1.2, hk.1.1.1.1.1.1.1.1.1.1.1.1.1⟩⟩⟩⟩⟩⟩⟩⟩⟩⟩⟩⟩))⟩
       have n15_ : Aside0 (((w110.setCell ⟨zG, 0, none⟩ (.slice Ao111 t423.length co111)).setCell ⟨zG, 1, none⟩ (.slice Ao115 t426.length co115)).heap[zR]? = some (.cells #[.slice Ao97 t395.length co97, .slice Ao99 t398.length co99] 35 (0, 0))) := ⟨by (with_reducible repeat (first | refine zj ?_ _ | refine zg ?_ | refine zh ?_ _)); refine zE ?_ zvb.out _; (with_reducible repeat (first | refine zj ?_ _ | refine zg ?_ | refine zh ?_ _)); refine zE ?_ zvb.out _; (with_reducible repeat (first | refine zj ?_ _ | refine zg ?_ | refine zh ?_ _)); exact zH.out⟩
       have n16_ : Aside0 (((w110.setCell ⟨zG, 0, none⟩ (.slice Ao111 t423.length co111)).setCell ⟨zG, 1, none⟩ (.slice Ao115 t426.length co115)).heap[zU]? = some (.cells #[.slice Ao92 t388.length co92, .slice Ao95 t391.length co95] 35 (0, 0))) := ⟨by (with_reducible repeat (first | refine zj ?_ _ | refine zg ?_ | refine zh ?_ _)); refine zE ?_ zFb.out _; (with_reducible repeat (first | refine zj ?_ _ | refine zg ?_ | refine zh ?_ _)); refine zE ?_ zFb.out _; (with_reducible repeat (first | refine zj ?_ _ | refine zg ?_ | refine zh ?_ _)); exact zI.out⟩
       have n17_ : Aside0 (((w110.setCell ⟨zG, 0, none⟩ (.slice Ao111 t423.length co111)).setCell ⟨zG, 1, none⟩ (.slice Ao115 t426.length co115)).heap[zG]? = some (.cells #[.slice Ao111 t423.length co111, .slice Ao115 t426.length co115] 35 (0, 0))) := ⟨by (with_reducible repeat (first | refine zj ?_ _ | refine zg ?_ | refine zh ?_ _)); refine zz (cs := #[.slice Ao111 t423.length co111, .slice none 0 0]) ?_ 1 _ rfl; (with_reducible repeat (first | refine zj ?_ _ | refine zg ?_ | refine zh ?_ _)); refine zz (cs := #[.slice none 0 0, .slice none 0 0]) ?_ 0 _ rfl; (with_reducible repeat (first | refine zj ?_ _ | refine zg ?_ | refine zh ?_ _)); exact zJ.out⟩
       have n18_ : Aside0 (Below w.heap.size w ((w110.setCell ⟨zG, 0, none⟩ (.slice Ao111 t423.length co111)).setCell ⟨zG, 1, none⟩ (.slice Ao115 t426.length co115))) := ⟨by repeat (first | (with_reducible first | exact HB.out | apply zf | apply ze | apply zi | refine zc ?_ zY.out | refine zc ?_ zbb.out | refine zc ?_ zgb.out) | exact HB.out)⟩
       (try clear zX)
       (try clear zdb)
       (try clear zV)
       (try clear zW)
       (try clear zcb)
       (try clear zfb)
       (try clear zhb)
       (try clear zZ)
       (try clear zib)
       (try clear zjb)
       (try clear zkb)
       (try clear zlb)
       (try clear zpb)
       (try clear zmb)
       (try clear znb)
       (try clear zH)
       (try clear zI)
       (try clear zJ)
       (try clear HB)
       generalize ((w110.setCell ⟨zG, 0, none⟩ (.slice Ao111 t423.length co111)).setCell ⟨zG, 1, none⟩ (.slice Ao115 t426.length co115)) = w128 at n0_ n1_ n2_ n3_ n4_ n5_ n6_ n7_ n8_ n9_ n10_ n11_ n12_ n13_ n14_ n15_ n16_ n17_ n18_ ⊢
       have zX := n0_
       have zdb := n1_
       have zV := n2_
       have zW := n3_
       have zcb := n4_
       have zfb := n5_
       have zhb := n6_
       have zZ := n7_
       have zib := n8_
       have zjb := n9_
       have zkb := n10_
       have zlb := n11_
       have zpb := n12_
       have zmb := n13_
       have znb := n14_
       have zH := n15_
       have zI := n16_
       have zJ := n17_
       have HB := n18_
       clear n0_ n1_ n2_ n3_ n4_ n5_ n6_ n7_ n8_ n9_ n10_ n11_ n12_ n13_ n14_ n15_ n16_ n17_ n18_
       have n0_ := Aside0.mk (Kd.R_drew zX.out)
       have n1_ := Aside0.mk (Kd.S_drew zdb.out)
       have n2_ := Aside0.mk (Kd.Q_drew zV.out)
       have n3_ := Aside0.mk (Kd.R_drew zW.out)
       have n4_ := Aside0.mk (Kd.S_drew zcb.out)
       have n5_ := Aside0.mk (Kd.R_drew zfb.out)
       have n6_ := Aside0.mk (Kd.S_drew zhb.out)
       have n7_ := Aside0.mk (Kd.Q_drew zZ.out)
       have n8_ := Aside0.mk (Kd.R_drew zib.out)
       have n9_ := Aside0.mk (Kd.S_drew zjb.out)
       have n10_ := Aside0.mk (Kd.R_drew zkb.out)
       have n11_ := Aside0.mk (Kd.S_drew zlb.out)
       have n12_ := Aside0.mk (Kd.R_drew zpb.out)
       have n13_ := Aside0.mk (Kd.R_drew zmb.out)
       have n14_ := Aside0.mk (Kd.S_drew znb.out)
       have n15_ := Aside0.mk (zg zH.out)
       have n16_ := Aside0.mk (zg zI.out)
       have n17_ := Aside0.mk (zg zJ.out)
       have n18_ := Aside0.mk (zi HB.out)
       clear zX
       clear zdb
       clear zV
       clear zW
       clear zcb
       clear zfb
       clear zhb
       clear zZ
       clear zib
       clear zjb
       clear zkb
       clear zlb
       clear zpb
       clear zmb
       clear znb
       clear zH
       clear zI
       clear zJ
       clear HB
       have zX := n0_
       have zdb := n1_
       have zV := n2_
       have zW := n3_
       have zcb := n4_
       have zfb := n5_
       have zhb := n6_
       have zZ := n7_
       have zib := n8_
       have zjb := n9_
       have zkb := n10_
       have zlb := n11_
       have zpb := n12_
       have zmb := n13_
       have znb := n14_
       have zH := n15_
       have zI := n16_
       have zJ := n17_
       have HB := n18_
       clear n0_ n1_ n2_ n3_ n4_ n5_ n6_ n7_ n8_ n9_ n10_ n11_ n12_ n13_ n14_ n15_ n16_ n17_ n18_
       refine start_ (n := 16) (S := fun w' => w'.cell? ⟨zG, 0, none⟩ = some (.slice Ao111 t423.length co111) ∧ w'.cell? ⟨zG, 1, none⟩ = some (.slice Ao115 t426.length co115) ∧ Kd.C (Kd.int .u8) w' Ao100 t402.length t402) (ds := []) #[false, false, false, false, false, false, false, false, false, false, false, false, false, false, false, false] (by kernel_rfl) rfl rfl ⟨(zb zJ.out 0).trans rfl, (zb zJ.out 1).trans rfl, (Kd.Q_reads' zZ.out).2.2⟩ (fun hHeld => ?_); refine with_tabW laws_FnSync.tab9 laws_FnSync.bits9 (fun HT_ HW_ => ?_)
       generalize w128.drew = w129 at zX zdb zV zW zcb zfb zhb zZ zib zjb zkb zlb zpb zmb znb zH zI zJ HB hHeld ⊢
       refine zA (i := 1) (N := some 71) (v := ?_) (a' := ?_) #[false, true, false, false, false, false, false, false, false, false, false, false, false, false, false, false] rfl rfl (zB HT_.out (by kernel_rfl)) (fun _ _ _ h => h) (Or.inl ⟨by rfl, ?_⟩) ?_ ?_
       rotate_left
       ·intro w'
        go_simp
        with_reducible rfl
       rotate_left
       ·simp only [Act.put, List.setIfInBounds_toArray, List.set_cons_zero, List.set_cons_succ, zp, zq]
        rfl
       refine zA (i := 4) (N := some 74) (v := ?_) (a' := ?_) #[false, true, false, false, true, false, false, false, false, false, false, false, false, false, false, false] rfl rfl (zB HT_.out (by kernel_rfl)) (fun _ _ _ h => h) (Or.inl ⟨by rfl, ?_⟩) ?_ ?_
       rotate_left
       ·intro w'
        go_simp
        with_reducible rfl
       rotate_left
       ·simp only [Act.put, List.setIfInBounds_toArray, List.set_cons_zero, List.set_cons_succ, zp, zq]
        rfl
       refine take_ (i := 5) (N := some 75) (v := ?_) (a' := ?_) #[false, true, false, false, true, true, false, false, false, false, false, false, false, false, false, false] rfl rfl (take_ofW HT_.out HW_.out (by kernel_rfl)) (fun _ _ _ h => h) (Or.inl ⟨by rfl, ?_⟩) hHeld ?_ ?_
       rotate_left
       ·rintro w' ⟨s0, s1, s2⟩
        have e_ := Kd.C_string (P := Try.prog) (c := co100) Try.underlying22 Try.underlying5 Try.underlying9 s2
        go_simp
        with_reducible rfl
       rotate_left
       ·simp only [Act.put, List.setIfInBounds_toArray, List.set_cons_zero, List.set_cons_succ, zp, zq]
        rfl
       refine take_ (i := 0) (N := some 70) (v := ?_) (a' := ?_) #[true, true, false, false, true, true, false, false, false, false, false, false, false, false, false, false] rfl rfl (take_ofW HT_.out HW_.out (by kernel_rfl)) (fun _ _ _ h => h) (Or.inl ⟨by rfl, ?_⟩) hHeld ?_ ?_
       rotate_left
       ·rintro w' ⟨s0, s1, s2⟩
        go_simp
        with_reducible rfl
       rotate_left
       ·simp only [Act.put, List.setIfInBounds_toArray, List.set_cons_zero, List.set_cons_succ, zp, zq]
        rfl
       refine one_ (i := 2) (N := some 72) #[true, true, true, false, true, true, false, false, false, false, false, false, false, false, false, false] rfl rfl (one_of HT_.out (by kernel_rfl)) (by decide) (fun K hK => ?_)
       refine goes_ Try.func18 (by kernel_rfl) rfl #[.agg #[.slice Ao111 t423.length co111, .slice Ao115 t426.length co115], .int .i64 t401] (by rfl) rfl rfl (by (try simp only [List.map_toArray, List.map_cons, List.map_nil]); first | done | rfl) ?_
       with_reducible refine (impl_DiskRead.calls kj2 _ _ t423 _ _ t426 t401 t430 _ ?side1 ?side2 ?side3 ?side4 A116.out).mono ?_
       (case side1 => repeat (first | exact (Kd.R_reads' zmb.out).2.2 | (with_reducible refine Kd.C_alloc ?_ _) | (with_reducible refine Kd.C_drewN ?_ _) | (with_reducible refine Kd.C_drew ?_)))
       (case side2 => exact (Kd.R_reads' zmb.out).2.1)
       (case side3 => repeat (first | exact (Kd.S_reads' znb.out).2.2 | (with_reducible refine Kd.C_alloc ?_ _) | (with_reducible refine Kd.C_drewN ?_ _) | (with_reducible refine Kd.C_drew ?_)))
       (case side4 => exact (Kd.S_reads' znb.out).2.1)
       rintro e w130 ⟨v431, rfl, zQ, hb⟩
       refine ⟨_, rfl, ?_⟩
       have n0_ := Aside0.mk (Kd.R_elder' (RL zX.out) (Kd.R_base zQ) hb)
       have n1_ := Aside0.mk (Kd.S_elder' (SL zdb.out) (Kd.R_base zQ) hb)
       have n2_ := Aside0.mk (Kd.Q_elder' (QL zV.out) (Kd.R_base zQ) hb)
       have n3_ := Aside0.mk (Kd.R_elder' (RL zW.out) (Kd.R_base zQ) hb)
       have n4_ := Aside0.mk (Kd.S_elder' (SL zcb.out) (Kd.R_base zQ) hb)
       have n5_ := Aside0.mk (Kd.R_elder' (RL zfb.out) (Kd.R_base zQ) hb)
       have n6_ := Aside0.mk (Kd.S_elder' (SL zhb.out) (Kd.R_base zQ) hb)
       have n7_ := Aside0.mk (Kd.Q_elder' (QL zZ.out) (Kd.R_base zQ) hb)
       have n8_ := Aside0.mk (Kd.R_elder' (RL zib.out) (Kd.R_base zQ) hb)
       have n9_ := Aside0.mk (Kd.S_elder' (SL zjb.out) (Kd.R_base zQ) hb)
       have n10_ := Aside0.mk (Kd.R_elder' (RL zkb.out) (Kd.R_base zQ) hb)
       have n11_ := Aside0.mk (Kd.S_elder' (SL zlb.out) (Kd.R_base zQ) hb)
       have n12_ := Aside0.mk (Kd.R_below (RL zpb.out) hb)
       have n13_ := Aside0.mk (Kd.R_elder' (RL zmb.out) (Kd.R_base zQ) hb)
       have n14_ := Aside0.mk (Kd.S_elder' (SL znb.out) (Kd.R_base zQ) hb)
       have n15_ := Aside0.mk (Kd.R_lower (Kd.R_new' (Kd.R_new' (Kd.R_new' (Kd.R_new' (Kd.R_new' (Kd.R_new' (Kd.R_new' (Kd.R_new' zQ (Kd.R_lt (RL zX.out))) (Kd.Q_lt (QL zV.out))) (Kd.R_lt (RL zW.out))) (Kd.R_lt (RL zfb.out))) (Kd.Q_lt (QL zZ.out))) (Kd.R_lt (RL zib.out))) (Kd.R_lt (RL zkb.out))) (Kd.R_lt (RL zmb.out))) (zm (by repeat (first | (with_reducible first | exact HB.out | apply zf | apply ze | apply zi | refine zc ?_ zY.out | refine zc ?_ zbb.out | refine zc ?_ zgb.out) | exact HB.out))))
       have n16_ := Aside0.mk (zl (g := zR) (o := .cells #[.slice Ao97 t395.length co97, .slice Ao99 t398.length co99] 35 (0, 0)) (BL zH.out) hb)
       have n17_ := Aside0.mk (zl (g := zU) (o := .cells #[.slice Ao92 t388.length co92, .slice Ao95 t391.length co95] 35 (0, 0)) (BL zI.out) hb)
       have n18_ := Aside0.mk (zl (g := zG) (o := .cells #[.slice Ao111 t423.length co111, .slice Ao115 t426.length co115] 35 (0, 0)) (BL zJ.out) hb)
       have n19_ := Aside0.mk (zk (by repeat (first | (with_reducible first | exact HB.out | apply zf | apply ze | apply zi | refine zc ?_ zY.out | refine zc ?_ zbb.out | refine zc ?_ zgb.out) | exact HB.out)) hb)
       clear zX
       clear zdb
       clear zV
       clear zW
       clear zcb
       clear zfb
       clear zhb
       clear zZ
       clear zib
       clear zjb
       clear zkb
       clear zlb
       clear zpb
       clear zmb
       clear znb
       clear zH
       clear zI
       clear zJ
       clear HB
       have zX := n0_
       have zdb := n1_
       have zV := n2_
       have zW := n3_
       have zcb := n4_
       have zfb := n5_
       have zhb := n6_
       have zZ := n7_
       have zib := n8_
       have zjb := n9_
       have zkb := n10_
       have zlb := n11_
       have zpb := n12_
       have zmb := n13_
       have znb := n14_
       have zHb := n15_
       have zH := n16_
       have zI := n17_
       have zJ := n18_
       have HB := n19_
       clear n0_ n1_ n2_ n3_ n4_ n5_ n6_ n7_ n8_ n9_ n10_ n11_ n12_ n13_ n14_ n15_ n16_ n17_ n18_ n19_
       (try clear hb)
       (try clear hb2)
       (try clear hk)
       (try clear hi)
       (try clear zQ)
       have hcv132 := q_string (P := Try.prog) Try.underlying22 Try.underlying5 Try.underlying9 zZ.out
       refine hK.out _ _ ⟨(zb zJ.out 0).trans rfl, (zb zJ.out 1).trans rfl, (Kd.Q_reads' zZ.out).2.2⟩ (fun hHeld => ?_)
       clear hK K
       refine norm_ (a' := ?_) ?_ ?_
       rotate_left
       ·show Act.put _ (some 72) _ = _
        simp only [Act.put, List.setIfInBounds_toArray, List.set_cons_zero, List.set_cons_succ, zp, zq]
        rfl
       refine one_ (i := 3) (N := some 73) #[true, true, true, true, true, true, false, false, false, false, false, false, false, false, false, false] rfl rfl (one_of HT_.out (by kernel_rfl)) (by decide) (fun K hK => ?_)
       have hcv131 := own_string (P := Try.prog) Try.underlying22 Try.underlying5 Try.underlying9 (Kd.own_of_R zHb.out)
       refine value_ (w1 := ?_) (v := ?_) (by rfl) rfl ?_ ?_
       rotate_left 2
       ·go_simp
        constructor
        ·rfl
        ·rfl
       clear hcv131
       refine hK.out _ _ ⟨(zb zJ.out 0).trans rfl, (zb zJ.out 1).trans rfl, (Kd.Q_reads' zZ.out).2.2⟩ (fun hHeld => ?_)
       clear hK K
       refine norm_ (a' := ?_) ?_ ?_
       rotate_left
       ·show Act.put _ (some 73) _ = _
        simp only [Act.put, List.setIfInBounds_toArray, List.set_cons_zero, List.set_cons_succ, zp, zq]
        rfl
       refine zA (i := 6) (N := some 76) (v := ?_) (a' := ?_) #[true, true, true, true, true, true, true, false, false, false, false, false, false, false, false, false] rfl rfl (zB HT_.out (by kernel_rfl)) (fun _ _ _ h => h) (Or.inl ⟨by rfl, ?_⟩) ?_ ?_
       rotate_left
       ·intro w'
        go_simp
        with_reducible rfl
       rotate_left
       ·simp only [Act.put, List.setIfInBounds_toArray, List.set_cons_zero, List.set_cons_succ, zp, zq]
        rfl
       refine zA (i := 7) (N := some 77) (v := ?_) (a' := ?_) #[true, true, true, true, true, true, true, true, false, false, false, false, false, false, false, false] rfl rfl (zB HT_.out (by kernel_rfl)) (fun _ _ _ h => h) (Or.inl ⟨by rfl, ?_⟩) ?_ ?_
       rotate_left
       ·intro w'
        go_simp
        with_reducible rfl
       rotate_left
       ·simp only [Act.put, List.setIfInBounds_toArray, List.set_cons_zero, List.set_cons_succ, zp, zq]
        rfl
       refine zA (i := 8) (N := some 78) (v := undef) (a' := ?_) #[true, true, true, true, true, true, true, true, true, false, false, false, false, false, false, false] rfl rfl (zB HT_.out (by kernel_rfl)) (fun _ _ _ h => h) (Or.inr ⟨by rfl, rfl⟩) ?_ ?_
       rotate_left
       ·simp only [Act.put, List.setIfInBounds_toArray, List.set_cons_zero, List.set_cons_succ, zp, zq]
        rfl
       refine zA (i := 9) (N := some 79) (v := undef) (a' := ?_) #[true, true, true, true, true, true, true, true, true, true, false, false, false, false, false, false] rfl rfl (zB HT_.out (by kernel_rfl)) (fun _ _ _ h => h) (Or.inr ⟨by rfl, rfl⟩) ?_ ?_
       rotate_left
       ·simp only [Act.put, List.setIfInBounds_toArray, List.set_cons_zero, List.set_cons_succ, zp, zq]
        rfl
       refine zA (i := 10) (N := some 80) (v := undef) (a' := ?_) #[true, true, true, true, true, true, true, true, true, true, true, false, false, false, false, false] rfl rfl (zB HT_.out (by kernel_rfl)) (fun _ _ _ h => h) (Or.inr ⟨by rfl, rfl⟩) ?_ ?_
       rotate_left
       ·simp only [Act.put, List.setIfInBounds_toArray, List.set_cons_zero, List.set_cons_succ, zp, zq]
        rfl
       refine zA (i := 11) (N := some 81) (v := undef) (a' := ?_) #[true, true, true, true, true, true, true, true, true, true, true, true, false, false, false, false] rfl rfl (zB HT_.out (by kernel_rfl)) (fun _ _ _ h => h) (Or.inr ⟨by rfl, rfl⟩) ?_ ?_
       rotate_left
       ·simp only [Act.put, List.setIfInBounds_toArray, List.set_cons_zero, List.set_cons_succ, zp, zq]
        rfl
       refine zA (i := 12) (N := some 82) (v := undef) (a' := ?_) #[true, true, true, true, true, true, true, true, true, true, true, true, true, false, false, false] rfl rfl (zB HT_.out (by kernel_rfl)) (fun _ _ _ h => h) (Or.inr ⟨by rfl, rfl⟩) ?_ ?_
       rotate_left
       ·simp only [Act.put, List.setIfInBounds_toArray, List.set_cons_zero, List.set_cons_succ, zp, zq]
        rfl
       refine zA (i := 13) (N := some 83) (v := undef) (a' := ?_) #[true, true, true, true, true, true, true, true, true, true, true, true, true, true, false, false] rfl rfl (zB HT_.out (by kernel_rfl)) (fun _ _ _ h => h) (Or.inr ⟨by rfl, rfl⟩) ?_ ?_
       rotate_left
       ·simp only [Act.put, List.setIfInBounds_toArray, List.set_cons_zero, List.set_cons_succ, zp, zq]
        rfl
       refine zA (i := 14) (N := some 84) (v := undef) (a' := ?_) #[true, true, true, true, true, true, true, true, true, true, true, true, true, true, true, false] rfl rfl (zB HT_.out (by kernel_rfl)) (fun _ _ _ h => h) (Or.inr ⟨by rfl, rfl⟩) ?_ ?_
       rotate_left
       ·simp only [Act.put, List.setIfInBounds_toArray, List.set_cons_zero, List.set_cons_succ, zp, zq]
        rfl
       refine zA (i := 15) (N := some 85) (v := ?_) (a' := ?_) #[true, true, true, true, true, true, true, true, true, true, true, true, true, true, true, true] rfl rfl (zB HT_.out (by kernel_rfl)) (fun _ _ _ h => h) (Or.inl ⟨by rfl, ?_⟩) ?_ ?_
       rotate_left
       ·intro w'
        go_simp
        with_reducible rfl
       rotate_left
       ·simp only [Act.put, List.setIfInBounds_toArray, List.set_cons_zero, List.set_cons_succ, zp, zq]
        rfl
       refine done_ (done_of HT_.out (by kernel_rfl)) ?_
       try go_wp2
       go_meet
       case rel => exact ⟨_, (true), (by first | rfl | (simp; done) | (simp [*]; done)), H', ⟨by have := HJ2.out; first | omega | exact Nat.le_refl _⟩, ⟨RL (Kd.R_mono zfb.out (fun _ hk => by simp only [ne_eq] at hk ⊢; simp only [hk, not_false_eq_true, and_self]))⟩, ⟨SL (Kd.S_mono zhb.out (fun _ hk => by simp only [ne_eq] at hk ⊢; simp only [hk, not_false_eq_true, and_self]))⟩, ⟨RL (Kd.R_mono zW.out (fun _ hk => by simp only [ne_eq] at hk ⊢; simp only [hk, not_false_eq_true, and_self]))⟩, ⟨SL (Kd.S_mono zcb.out (fun _ hk => by simp only [ne_eq] at hk ⊢; simp only [hk, not_false_eq_true, and_self]))⟩, ⟨RL (Kd.R_mono zmb.out (fun _ hk => by simp only [ne_eq] at hk ⊢; simp only [hk, not_false_eq_true, and_self]))⟩, ⟨SL (Kd.S_mono znb.out (fun _ hk => by simp only [ne_eq] at hk ⊢; simp only [hk, not_false_eq_true, and_self]))⟩, ⟨BL zH.out⟩, ⟨BL zI.out⟩, ⟨BL zJ.out⟩, ⟨by repeat (first | (with_reducible first | exact HB.out | apply zf | apply ze | apply zi | refine zc ?_ zY.out | refine zc ?_ zbb.out | refine zc ?_ zgb.out) | exact HB.out)⟩⟩
     case rest =>
      clear HC82
      try clear c1
      try clear hcv1
      try clear p2
      try clear c11
      try clear hcv12
      try clear hcv13
      try clear c18
      try clear c117
      try clear c117b0
      try clear c117b1
      try clear hcv122
      try clear hcv123
      try clear hcv125
      try clear hcv126
      try clear hcv131
      try clear hcv132
      obtain ⟨kq, x85_81, rfl, HA, HJ81, zL, zM, zK, zN, zO, zP, zH, zI, zJ, HB⟩ := hcut
      cases kq with
      | zero => exact absurd HA.out (by simp [laws_FnSync.j1])
      | succ kj81 =>
       have H := HA.out
       clear HA
       simp only [laws_FnSync.j1] at H
       by_cases c134 : x85_81 = true
       ·subst c134
        have H1 : none = some r := by rw [if_pos rfl] at H; exact H
        clear H
        have H := H1
        clear H1
        exact absurd H (by simp)
       ·replace c134 := Bool.eq_false_iff.mpr c134
        subst c134
        have H1 : ((laws_lwChoices.f kj81 l1 3).bind fun t436 => ((impl_DiskCrash.f kj81 t388 t391 t436).bind fun bt439 => (laws_FnSync.l0 kj81 t401 (wrap64 ((t395.length : Int) / 64)) 0 t395 t398 bt439.1 bt439.2))) = some r := by rw [if_neg (show ¬ (false = true) by decide)] at H; exact H
        clear H
        have H := H1
        clear H1
        replace H := Option.bind_eq_some_iff.mp H
        obtain ⟨t436, A1350, H⟩ := H
        replace H : ((impl_DiskCrash.f kj81 t388 t391 t436).bind fun bt439 => (laws_FnSync.l0 kj81 t401 (wrap64 ((t395.length : Int) / 64)) 0 t395 t398 bt439.1 bt439.2)) = some r := H
        have A135 := Aside0.mk A1350
        clear A1350
        replace H := Option.bind_eq_some_iff.mp H
        obtain ⟨⟨t439, t442⟩, A1360, H⟩ := H
        replace H : (laws_FnSync.l0 kj81 t401 (wrap64 ((t395.length : Int) / 64)) 0 t395 t398 t439 t442) = some r := H
        have A136 := Aside0.mk A1360
        clear A1360
        have H' := Aside0.mk H
        clear H
        try go_wp2
        have n0_ := Aside0.mk (Kd.R_drew zL.out)
        have n1_ := Aside0.mk (Kd.S_drew zM.out)
        have n2_ := Aside0.mk (Kd.R_drew zK.out)
        have n3_ := Aside0.mk (Kd.S_drew zN.out)
        have n4_ := Aside0.mk (Kd.R_drew zO.out)
        have n5_ := Aside0.mk (Kd.S_drew zP.out)
        have n6_ := Aside0.mk (zg zH.out)
        have n7_ := Aside0.mk (zg zI.out)
        have n8_ := Aside0.mk (zg zJ.out)
        have n9_ := Aside0.mk (zi HB.out)
        clear zL
        clear zM
        clear zK
        clear zN
        clear zO
        clear zP
        clear zH
        clear zI
        clear zJ
        clear HB
        have zL := n0_
        have zM := n1_
        have zK := n2_
        have zN := n3_
        have zO := n4_
        have zP := n5_
        have zH := n6_
        have zI := n7_
        have zJ := n8_
        have HB := n9_
        clear n0_ n1_ n2_ n3_ n4_ n5_ n6_ n7_ n8_ n9_
        refine start_ (n := 6) (S := fun w' => w'.cell? ⟨zU, 0, none⟩ = some (.slice Ao92 t388.length co92) ∧ w'.cell? ⟨zU, 1, none⟩ = some (.slice Ao95 t391.length co95)) (ds := []) #[false, false, false, false, false, false] (by kernel_rfl) rfl rfl ⟨(zb zI.out 0).trans rfl, (zb zI.out 1).trans rfl⟩ (fun hHeld => ?_)
        generalize wc.drew = w137 at zL zM zK zN zO zP zH zI zJ HB hHeld ⊢
        refine zA (i := 1) (N := some 87) (v := ?_) (a' := ?_) #[false, true, false, false, false, false] rfl rfl (by kernel_rfl) (fun _ _ _ h => h) (Or.inl ⟨by rfl, ?_⟩) ?_ ?_
        rotate_left
        ·intro w'
         go_simp
         with_reducible rfl
        rotate_left
        ·simp only [Act.put, List.setIfInBounds_toArray, List.set_cons_zero, List.set_cons_succ, zp, zq]
         rfl
        refine take_ (i := 0) (N := some 86) (v := ?_) (a' := ?_) #[true, true, false, false, false, false] rfl rfl (by kernel_rfl) (fun _ _ _ h => h) (Or.inl ⟨by rfl, ?_⟩) hHeld ?_ ?_
        rotate_left
        ·rintro w' ⟨s0, s1⟩
         go_simp
         with_reducible rfl
        rotate_left
        ·simp only [Act.put, List.setIfInBounds_toArray, List.set_cons_zero, List.set_cons_succ, zp, zq]
         rfl
        refine join_ (σ := Value × Value × Value × Nat) 1 #[true, true, true, true, true, false] (fun s_ => [(88, s_.1), (89, .agg #[s_.2.1, s_.2.2.1]), (10, .pointer (some ⟨s_.2.2.2, 0, none⟩))]) (fun s_ w' => (w'.cell? ⟨zU, 0, none⟩ = some (.slice Ao92 t388.length co92) ∧ w'.cell? ⟨zU, 1, none⟩ = some (.slice Ao95 t391.length co95)) ∧ (Kd.R (Kd.int .i64) 2 w' w.heap.size (fun _ => True) s_.1 t436) ∧ (Kd.R (Kd.int .u8) 5 w' w.heap.size (fun k_ => some k_ ≠ (.slice Ao97 t395.length co97 : Value).ownBlock ∧ some k_ ≠ (.slice Ao92 t388.length co92 : Value).ownBlock ∧ some k_ ≠ (.slice Ao111 t423.length co111 : Value).ownBlock) s_.2.1 t439) ∧ (Kd.S k45 45 w' w.heap.size (fun k_ => some k_ ≠ (s_.2.1 : Value).ownBlock ∧ some k_ ≠ (.slice Ao97 t395.length co97 : Value).ownBlock ∧ some k_ ≠ (.slice Ao99 t398.length co99 : Value).ownBlock ∧ some k_ ≠ (.slice Ao92 t388.length co92 : Value).ownBlock ∧ some k_ ≠ (.slice Ao95 t391.length co95 : Value).ownBlock ∧ some k_ ≠ (.slice Ao111 t423.length co111 : Value).ownBlock ∧ some k_ ≠ (.slice Ao115 t426.length co115 : Value).ownBlock) s_.2.2.1 t442) ∧ (Kd.R (Kd.int .u8) 5 w' w.heap.size (fun k_ => some k_ ≠ (s_.2.1 : Value).ownBlock ∧ some k_ ≠ (.slice Ao92 t388.length co92 : Value).ownBlock ∧ some k_ ≠ (.slice Ao111 t423.length co111 : Value).ownBlock) (.slice Ao97 t395.length co97) t395) ∧ (Kd.S k45 45 w' w.heap.size (fun k_ => some k_ ≠ (s_.2.1 : Value).ownBlock ∧ some k_ ≠ (s_.2.2.1 : Value).ownBlock ∧ some k_ ≠ (.slice Ao97 t395.length co97 : Value).ownBlock ∧ some k_ ≠ (.slice Ao92 t388.length co92 : Value).ownBlock ∧ some k_ ≠ (.slice Ao95 t391.length co95 : Value).ownBlock ∧ some k_ ≠ (.slice Ao111 t423.length co111 : Value).ownBlock ∧ some k_ ≠ (.slice Ao115 t426.length co115 : Value).ownBlock) (.slice Ao99 t398.length co99) t398) ∧ (Kd.R (Kd.int .u8) 5 w' w.heap.size (fun k_ => some k_ ≠ (s_.2.1 : Value).ownBlock ∧ some k_ ≠ (.slice Ao97 t395.length co97 : Value).ownBlock ∧ some k_ ≠ (.slice Ao111 t423.length co111 : Value).ownBlock) (.slice Ao92 t388.length co92) t388) ∧ (Kd.S k45 45 w' w.heap.size (fun k_ => some k_ ≠ (s_.2.1 : Value).ownBlock ∧ some k_ ≠ (s_.2.2.1 : Value).ownBlock ∧ some k_ ≠ (.slice Ao97 t395.length co97 : Value).ownBlock ∧ some k_ ≠ (.slice Ao99 t398.length co99 : Value).ownBlock ∧ some k_ ≠ (.slice Ao92 t388.length co92 : Value).ownBlock ∧ some k_ ≠ (.slice Ao111 t423.length co111 : Value).ownBlock ∧ some k_ ≠ (.slice Ao115 t426.length co115 : Value).ownBlock) (.slice Ao95 t391.length co95) t391) ∧ (Kd.R (Kd.int .u8) 5 w' w.heap.size (fun k_ => some k_ ≠ (s_.2.1 : Value).ownBlock ∧ some k_ ≠ (.slice Ao97 t395.length co97 : Value).ownBlock ∧ some k_ ≠ (.slice Ao92 t388.length co92 : Value).ownBlock) (.slice Ao111 t423.length co111) t423) ∧ (Kd.S k45 45 w' w.heap.size (fun k_ => some k_ ≠ (s_.2.1 : Value).ownBlock ∧ some k_ ≠ (s_.2.2.1 : Value).ownBlock ∧ some k_ ≠ (.slice Ao97 t395.length co97 : Value).ownBlock ∧ some k_ ≠ (.slice Ao99 t398.length co99 : Value).ownBlock ∧ some k_ ≠ (.slice Ao92 t388.length co92 : Value).ownBlock ∧ some k_ ≠ (.slice Ao95 t391.length co95 : Value).ownBlock ∧ some k_ ≠ (.slice Ao111 t423.length co111 : Value).ownBlock) (.slice Ao115 t426.length co115) t426) ∧ (w'.heap[zR]? = some (.cells #[.slice Ao97 t395.length co97, .slice Ao99 t398.length co99] 35 (0, 0))) ∧ (w'.heap[zU]? = some (.cells #[.slice Ao92 t388.length co92, .slice Ao95 t391.length co95] 35 (0, 0))) ∧ (w'.heap[zG]? = some (.cells #[.slice Ao111 t423.length co111, .slice Ao115 t426.length co115] 35 (0, 0))) ∧ (w'.heap[s_.2.2.2]? = some (.cells #[.slice none 0 0, .slice none 0 0] 35 (0, 0))) ∧ (w.heap.size ≤ s_.2.2.2) ∧ (w.heap.size ≤ s_.2.2.2) ∧ (zR ≠ s_.2.2.2) ∧ (s_.2.2.2 ≠ zR) ∧ (zU ≠ s_.2.2.2) ∧ (s_.2.2.2 ≠ zU) ∧ (zG ≠ s_.2.2.2) ∧ (s_.2.2.2 ≠ zG) ∧ (Below w.heap.size w w')) ?_ ?_
        rotate_left
        ·intro hCont
         refine two_ (i := 2) (j := 4) (Ni := some 88) (Nj := some 10) #[true, true, true, false, false, false] #[true, true, false, false, true, false] rfl rfl rfl rfl (by kernel_rfl) (by decide) (by decide) (fun K hK => ?_) (fun K hK => ?_)
         ·skip
          refine goes_ Try.func21 (by kernel_rfl) rfl #[.slice A1 l1.length c1, .int .i64 3] (by rfl) rfl rfl (by (try simp only [List.map_toArray, List.map_cons, List.map_nil]); first | done | rfl) ?_
          with_reducible refine (laws_lwChoices.calls kj81 _ _ l1 3 t436 _ ?side1 ?side2 A135.out).mono ?_
          (case side1 => repeat (first | exact (Kd.C_below HR1.out HB.out) | (with_reducible refine Kd.C_alloc ?_ _) | (with_reducible refine Kd.C_drewN ?_ _) | (with_reducible refine Kd.C_drew ?_)))
          (case side2 => exact HC1.out)
          rintro e w138 ⟨v437, rfl, zQ, hb⟩
          refine ⟨_, rfl, ?_⟩
          have n0_ := Aside0.mk (Kd.R_below (RL zL.out) hb)
          have n1_ := Aside0.mk (Kd.S_below (SL zM.out) hb)
          have n2_ := Aside0.mk (Kd.R_below (RL zK.out) hb)
          have n3_ := Aside0.mk (Kd.S_below (SL zN.out) hb)
          have n4_ := Aside0.mk (Kd.R_below (RL zO.out) hb)
          have n5_ := Aside0.mk (Kd.S_below (SL zP.out) hb)
          have n6_ := Aside0.mk (Kd.R_lower zQ (zm (by repeat (first | (with_reducible first | exact HB.out | apply zf | apply ze | apply zi | refine zc ?_ zY.out | refine zc ?_ zbb.out | refine zc ?_ zgb.out) | exact HB.out))))
          have n7_ := Aside0.mk (zl (g := zR) (o := .cells #[.slice Ao97 t395.length co97, .slice Ao99 t398.length co99] 35 (0, 0)) (BL zH.out) hb)
          have n8_ := Aside0.mk (zl (g := zU) (o := .cells #[.slice Ao92 t388.length co92, .slice Ao95 t391.length co95] 35 (0, 0)) (BL zI.out) hb)
          have n9_ := Aside0.mk (zl (g := zG) (o := .cells #[.slice Ao111 t423.length co111, .slice Ao115 t426.length co115] 35 (0, 0)) (BL zJ.out) hb)
          have n10_ := Aside0.mk (zk (by repeat (first | (with_reducible first | exact HB.out | apply zf | apply ze | apply zi | refine zc ?_ zY.out | refine zc ?_ zbb.out | refine zc ?_ zgb.out) | exact HB.out)) hb)
          clear zL
          clear zM
          clear zK
          clear zN
          clear zO
          clear zP
          clear zH
          clear zI
          clear zJ
          clear HB
          have zL := n0_
          have zM := n1_
          have zK := n2_
          have zN := n3_
          have zO := n4_
          have zP := n5_
          have zsb := n6_
          have zH := n7_
          have zI := n8_
          have zJ := n9_
          have HB := n10_
          clear n0_ n1_ n2_ n3_ n4_ n5_ n6_ n7_ n8_ n9_ n10_
          (try clear hb)
          (try clear hb2)
          (try clear hk)
          (try clear hi)
          (try clear zQ)
          obtain ⟨Ao139, co139, eo139⟩ := Kd.R_slice zsb.out
          (first | subst eo139 | (injection eo139 with f1_ f2_ f3_; have f4_ := f1_.symm; have f5_ := f3_.symm; clear f1_ f2_ f3_; subst f4_; subst f5_))
          refine hK.out _ _ ⟨(zb zI.out 0).trans rfl, (zb zI.out 1).trans rfl⟩ (fun hHeld => ?_)
          clear hK K
          refine norm_ (a' := ?_) ?_ ?_
          rotate_left
          ·show Act.put _ (some 88) _ = _
           simp only [Act.put, List.setIfInBounds_toArray, List.set_cons_zero, List.set_cons_succ, zp, zq]
           rfl
          refine two_ (i := 3) (j := 4) (Ni := some 89) (Nj := some 10) #[true, true, true, true, false, false] #[true, true, true, false, true, false] rfl rfl rfl rfl (by kernel_rfl) (by decide) (by decide) (fun K hK => ?_) (fun K hK => ?_)
          ·skip
           refine goes_ Try.func19 (by kernel_rfl) rfl #[.agg #[.slice Ao92 t388.length co92, .slice Ao95 t391.length co95], .slice Ao139 t436.length co139] (by rfl) rfl rfl (by (try simp only [List.map_toArray, List.map_cons, List.map_nil]); first | done | rfl) ?_
           with_reducible refine (impl_DiskCrash.calls kj81 _ _ t388 _ _ t391 _ _ t436 t439 t442 _ ?side1 ?side2 ?side3 ?side4 ?side5 ?side6 A136.out).mono ?_
           (case side1 => repeat (first | exact (Kd.R_reads' zK.out).2.2 | (with_reducible refine Kd.C_alloc ?_ _) | (with_reducible refine Kd.C_drewN ?_ _) | (with_reducible refine Kd.C_drew ?_)))
           (case side2 => exact (Kd.R_reads' zK.out).2.1)
           (case side3 => repeat (first | exact (Kd.S_reads' zN.out).2.2 | (with_reducible refine Kd.C_alloc ?_ _) | (with_reducible refine Kd.C_drewN ?_ _) | (with_reducible refine Kd.C_drew ?_)))
           (case side4 => exact (Kd.S_reads' zN.out).2.1)
           (case side5 => repeat (first | exact (Kd.R_reads' zsb.out).2.2 | (with_reducible refine Kd.C_alloc ?_ _) | (with_reducible refine Kd.C_drewN ?_ _) | (with_reducible refine Kd.C_drew ?_)))
           (case side6 => exact (Kd.R_reads' zsb.out).2.1)
           rintro e w140 ⟨v440, v443, rfl, zQ, zqb, hb⟩
           refine ⟨_, rfl, ?_⟩
           have n0_ := Aside0.mk (Kd.R_elder' (RL zL.out) (Kd.R_base zQ) hb)
           have n1_ := Aside0.mk (Kd.S_mono (Kd.S_told (Kd.S_told (Kd.S_old (SL zM.out) hb) (Kd.R_base zQ)) (Kd.S_base zqb)) (fun _ h_ => h_.1))
           have n2_ := Aside0.mk (Kd.R_elder' (RL zK.out) (Kd.R_base zQ) hb)
           have n3_ := Aside0.mk (Kd.S_mono (Kd.S_told (Kd.S_told (Kd.S_old (SL zN.out) hb) (Kd.R_base zQ)) (Kd.S_base zqb)) (fun _ h_ => h_.1))
           have n4_ := Aside0.mk (Kd.R_elder' (RL zO.out) (Kd.R_base zQ) hb)
           have n5_ := Aside0.mk (Kd.S_mono (Kd.S_told (Kd.S_told (Kd.S_old (SL zP.out) hb) (Kd.R_base zQ)) (Kd.S_base zqb)) (fun _ h_ => h_.1))
           have n6_ := Aside0.mk (Kd.R_below (RL zsb.out) hb)
           have n7_ := Aside0.mk (Kd.R_lower (Kd.R_new' (Kd.R_new' (Kd.R_new' zQ (Kd.R_lt (RL zL.out))) (Kd.R_lt (RL zK.out))) (Kd.R_lt (RL zO.out))) (zm (by repeat (first | (with_reducible first | exact HB.out | apply zf | apply ze | apply zi | refine zc ?_ zY.out | refine zc ?_ zbb.out | refine zc ?_ zgb.out) | exact HB.out))))
           have n8_ := Aside0.mk (Kd.S_lower (Kd.S_new' (Kd.S_new' (Kd.S_new' (Kd.S_new' (Kd.S_new' (Kd.S_new' zqb (Kd.R_lt (RL zL.out))) (Kd.S_lt (SL zM.out))) (Kd.R_lt (RL zK.out))) (Kd.S_lt (SL zN.out))) (Kd.R_lt (RL zO.out))) (Kd.S_lt (SL zP.out))) (zm (by repeat (first | (with_reducible first | exact HB.out | apply zf | apply ze | apply zi | refine zc ?_ zY.out | refine zc ?_ zbb.out | refine zc ?_ zgb.out) | exact HB.out))))
           have n9_ := Aside0.mk (zl (g := zR) (o := .cells #[.slice Ao97 t395.length co97, .slice Ao99 t398.length co99] 35 (0, 0)) (BL zH.out) hb)
           have n10_ := Aside0.mk (zl (g := zU) (o := .cells #[.slice Ao92 t388.length co92, .slice Ao95 t391.length co95] 35 (0, 0)) (BL zI.out) hb)
           have n11_ := Aside0.mk (zl (g := zG) (o := .cells #[.slice Ao111 t423.length co111, .slice Ao115 t426.length co115] 35 (0, 0)) (BL zJ.out) hb)
           have n12_ := Aside0.mk (zk (by repeat (first | (with_reducible first | exact HB.out | apply zf | apply ze | apply zi | refine zc ?_ zY.out | refine zc ?_ zbb.out | refine zc ?_ zgb.out) | exact HB.out)) hb)
           clear zL
           clear zM
           clear zK
           clear zN
           clear zO
           clear zP
           clear zsb
           clear zH
           clear zI
           clear zJ
           clear HB
           have zL := n0_
           have zM := n1_
           have zK := n2_
           have zN := n3_
           have zO := n4_
           have zP := n5_
           have zsb := n6_
           have zDb := n7_
           have zEb := n8_
           have zH := n9_
           have zI := n10_
           have zJ := n11_
           have HB := n12_
           clear n0_ n1_ n2_ n3_ n4_ n5_ n6_ n7_ n8_ n9_ n10_ n11_ n12_
           (try clear hb)
           (try clear hb2)
           (try clear hk)
           (try clear hi)
           (try clear zQ)
           (try clear zqb)
           refine hK.out _ _ ⟨(zb zI.out 0).trans rfl, (zb zI.out 1).trans rfl⟩ (fun hHeld => ?_)
           clear hK K
           refine norm_ (a' := ?_) ?_ ?_
           rotate_left
           ·show Act.put _ (some 89) _ = _
            simp only [Act.put, List.setIfInBounds_toArray, List.set_cons_zero, List.set_cons_succ, zp, zq]
            rfl
           refine one_ (i := 4) (N := some 10) #[true, true, true, true, true, false] rfl rfl (by kernel_rfl) (by decide) (fun K hK => ?_)
           refine box_step ?hg (N := 10) ?hd (cs := #[.slice none 0 0, .slice none 0 0]) (t := 35) ?hr ?_; (case hd => rfl); (case hg => rfl); (case hr => first | (go_simp; done) | (go_simp; rfl))
           intro zT hg w141 hbox hb
           have n0_ := Aside0.mk (Kd.R_below (RL zL.out) hb)
           have n1_ := Aside0.mk (Kd.S_below (SL zM.out) hb)
           have n2_ := Aside0.mk (Kd.R_below (RL zK.out) hb)
           have n3_ := Aside0.mk (Kd.S_below (SL zN.out) hb)
           have n4_ := Aside0.mk (Kd.R_below (RL zO.out) hb)
           have n5_ := Aside0.mk (Kd.S_below (SL zP.out) hb)
           have n6_ := Aside0.mk (Kd.R_below (RL zsb.out) hb)
           have n7_ := Aside0.mk (Kd.R_below (RL zDb.out) hb)
           have n8_ := Aside0.mk (Kd.S_below (SL zEb.out) hb)
           have n9_ := Aside0.mk (zl (g := zR) (o := .cells #[.slice Ao97 t395.length co97, .slice Ao99 t398.length co99] 35 (0, 0)) (BL zH.out) hb)
           have n10_ := Aside0.mk (zl (g := zU) (o := .cells #[.slice Ao92 t388.length co92, .slice Ao95 t391.length co95] 35 (0, 0)) (BL zI.out) hb)
           have n11_ := Aside0.mk (zl (g := zG) (o := .cells #[.slice Ao111 t423.length co111, .slice Ao115 t426.length co115] 35 (0, 0)) (BL zJ.out) hb)
           have n12_ := Aside0.mk (zk (by repeat (first | (with_reducible first | exact HB.out | apply zf | apply ze | apply zi | refine zc ?_ zY.out | refine zc ?_ zbb.out | refine zc ?_ zgb.out) | exact HB.out)) hb)
           have n13_ := Aside0.mk (hbox)
           have n14_ := Aside0.mk ((by rw [hg]; exact (zm (by repeat (first | (with_reducible first | exact HB.out | apply zf | apply ze | apply zi | refine zc ?_ zY.out | refine zc ?_ zbb.out | refine zc ?_ zgb.out) | exact HB.out))) : w.heap.size ≤ zT))
           have n15_ := Aside0.mk ((by rw [hg]; exact (zm (by repeat (first | (with_reducible first | exact HB.out | apply zf | apply ze | apply zi | refine zc ?_ zY.out | refine zc ?_ zbb.out | refine zc ?_ zgb.out) | exact HB.out))) : w.heap.size ≤ zT))
           have n16_ := Aside0.mk ((by rw [hg]; exact Nat.ne_of_lt (zr (g := zR) (o := .cells #[.slice Ao97 t395.length co97, .slice Ao99 t398.length co99] 35 (0, 0)) (BL zH.out)) : zR ≠ zT))
           have n17_ := Aside0.mk ((by rw [hg]; exact Nat.ne_of_gt (zr (g := zR) (o := .cells #[.slice Ao97 t395.length co97, .slice Ao99 t398.length co99] 35 (0, 0)) (BL zH.out)) : zT ≠ zR))
           have n18_ := Aside0.mk ((by rw [hg]; exact Nat.ne_of_lt (zr (g := zU) (o := .cells #[.slice Ao92 t388.length co92, .slice Ao95 t391.length co95] 35 (0, 0)) (BL zI.out)) : zU ≠ zT))
           have n19_ := Aside0.mk ((by rw [hg]; exact Nat.ne_of_gt (zr (g := zU) (o := .cells #[.slice Ao92 t388.length co92, .slice Ao95 t391.length co95] 35 (0, 0)) (BL zI.out)) : zT ≠ zU))
           have n20_ := Aside0.mk ((by rw [hg]; exact Nat.ne_of_lt (zr (g := zG) (o := .cells #[.slice Ao111 t423.length co111, .slice Ao115 t426.length co115] 35 (0, 0)) (BL zJ.out)) : zG ≠ zT))
           have n21_ := Aside0.mk ((by rw [hg]; exact Nat.ne_of_gt (zr (g := zG) (o := .cells #[.slice Ao111 t423.length co111, .slice Ao115 t426.length co115] 35 (0, 0)) (BL zJ.out)) : zT ≠ zG))
           clear zL
           clear zM
           clear zK
           clear zN
           clear zO
           clear zP
           clear zsb
           clear zDb
           clear zEb
           clear zH
           clear zI
           clear zJ
           clear HB
           have zL := n0_
           have zM := n1_
           have zK := n2_
           have zN := n3_
           have zO := n4_
           have zP := n5_
           have zsb := n6_
           have zDb := n7_
           have zEb := n8_
           have zH := n9_
           have zI := n10_
           have zJ := n11_
           have HB := n12_
           have zS := n13_
           have GW445 := n14_
           have zob := n15_
           have zrb := n16_
           have zub := n17_
           have ztb := n18_
           have zzb := n19_
           have zwb := n20_
           have zAb := n21_
           clear n0_ n1_ n2_ n3_ n4_ n5_ n6_ n7_ n8_ n9_ n10_ n11_ n12_ n13_ n14_ n15_ n16_ n17_ n18_ n19_ n20_ n21_
           clear hb hbox hg
           refine hK.out _ _ ⟨(zb zI.out 0).trans rfl, (zb zI.out 1).trans rfl⟩ (fun hHeld => ?_)
           clear hK K
           refine norm_ (a' := ?_) ?_ ?_
           rotate_left
           ·show Act.put _ (some 10) _ = _
            simp only [Act.put, List.setIfInBounds_toArray, List.set_cons_zero, List.set_cons_succ, zp, zq]
            rfl
           exact norm_ (by simp only [putAll, Act.put, List.setIfInBounds_toArray, List.set_cons_zero, List.set_cons_succ]) (hCont (.slice Ao139 t436.length co139, v440, v443, zT) _ ⟨hHeld, (by exact RL zsb.out), (by exact RL (Kd.R_mono zDb.out (fun _ hk => ⟨hk.1.1.2, ⟨hk.1.2, hk.2⟩⟩))), (by exact SL (Kd.S_mono zEb.out (fun _ hk => ⟨hk.1.1.1.1.1.1, ⟨hk.1.1.1.1.1.2, ⟨hk.1.1.1.1.2, ⟨hk.1.1.1.2, ⟨hk.1.1.2, ⟨hk.1.2, hk.2⟩⟩⟩⟩⟩⟩))), (by exact RL (Kd.R_mono zL.out (fun _ hk => ⟨hk.2, ⟨hk.1.1, hk.1.2⟩⟩))), (by exact SL (Kd.S_mono zM.out (fun _ hk => ⟨hk.1.2, ⟨hk.2, ⟨hk.1.1.1, ⟨hk.1.1.2.1, ⟨hk.1.1.2.2.1, ⟨hk.1.1.2.2.2.1, hk.1.1.2.2.2.2⟩⟩⟩⟩⟩⟩))), (by exact RL (Kd.R_mono zK.out (fun _ hk => ⟨hk.2, ⟨hk.1.1, hk.1.2⟩⟩))), (by exact SL (Kd.S_mono zN.out (fun _ hk => ⟨hk.1.2, ⟨hk.2, ⟨hk.1.1.1, ⟨hk.1.1.2.1, ⟨hk.1.1.2.2.1, ⟨hk.1.1.2.2.2.1, hk.1.1.2.2.2.2⟩⟩⟩⟩⟩⟩))), (by exact RL (Kd.R_mono zO.out (fun _ hk => ⟨hk.2, ⟨hk.1.1, hk.1.2⟩⟩))), (by exact SL (Kd.S_mono zP.out (fun _ hk => ⟨hk.1.2, ⟨hk.2, ⟨hk.1.1.1, ⟨hk.1.1.2.1, ⟨hk.1.1.2.2.1, ⟨hk.1.1.2.2.2.1, hk.1.1.2.2.2.2⟩⟩⟩⟩⟩⟩))), (by exact BL zH.out), (by exact BL zI.out), (by exact BL zJ.out), (by exact BL zS.out), GW445.out, zob.out, zrb.out, zub.out, ztb.out, zzb.out, zwb.out, zAb.out, (by repeat (first | (with_reducible first | exact HB.out | apply zf | apply ze | apply zi | refine zc ?_ zY.out | refine zc ?_ zbb.out | refine zc ?_ zgb.out | refine zc ?_ zob.out) | exact HB.out))⟩)
          ·skip
           refine box_step ?hg (N := 10) ?hd (cs := #[.slice none 0 0, .slice none 0 0]) (t := 35) ?hr ?_; (case hd => rfl); (case hg => rfl); (case hr => first | (go_simp; done) | (go_simp; rfl))
           intro zT hg w139 hbox hb
           have n0_ := Aside0.mk (Kd.R_below (RL zL.out) hb)
           have n1_ := Aside0.mk (Kd.S_below (SL zM.out) hb)
           have n2_ := Aside0.mk (Kd.R_below (RL zK.out) hb)
           have n3_ := Aside0.mk (Kd.S_below (SL zN.out) hb)
           have n4_ := Aside0.mk (Kd.R_below (RL zO.out) hb)
           have n5_ := Aside0.mk (Kd.S_below (SL zP.out) hb)
           have n6_ := Aside0.mk (Kd.R_below (RL zsb.out) hb)
           have n7_ := Aside0.mk (zl (g := zR) (o := .cells #[.slice Ao97 t395.length co97, .slice Ao99 t398.length co99] 35 (0, 0)) (BL zH.out) hb)
           have n8_ := Aside0.mk (zl (g := zU) (o := .cells #[.slice Ao92 t388.length co92, .slice Ao95 t391.length co95] 35 (0, 0)) (BL zI.out) hb)
           have n9_ := Aside0.mk (zl (g := zG) (o := .cells #[.slice Ao111 t423.length co111, .slice Ao115 t426.length co115] 35 (0, 0)) (BL zJ.out) hb)
           have n10_ := Aside0.mk (zk (by repeat (first | (with_reducible first | exact HB.out | apply zf | apply ze | apply zi | refine zc ?_ zY.out | refine zc ?_ zbb.out | refine zc ?_ zgb.out) | exact HB.out)) hb)
           have n11_ := Aside0.mk (hbox)
           have n12_ := Aside0.mk ((by rw [hg]; exact (zm (by repeat (first | (with_reducible first | exact HB.out | apply zf | apply ze | apply zi | refine zc ?_ zY.out | refine zc ?_ zbb.out | refine zc ?_ zgb.out) | exact HB.out))) : w.heap.size ≤ zT))
           have n13_ := Aside0.mk ((by rw [hg]; exact (zm (by repeat (first | (with_reducible first | exact HB.out | apply zf | apply ze | apply zi | refine zc ?_ zY.out | refine zc ?_ zbb.out | refine zc ?_ zgb.out) | exact HB.out))) : w.heap.size ≤ zT))
           have n14_ := Aside0.mk ((by rw [hg]; exact Nat.ne_of_lt (zr (g := zR) (o := .cells #[.slice Ao97 t395.length co97, .slice Ao99 t398.length co99] 35 (0, 0)) (BL zH.out)) : zR ≠ zT))
           have n15_ := Aside0.mk ((by rw [hg]; exact Nat.ne_of_gt (zr (g := zR) (o := .cells #[.slice Ao97 t395.length co97, .slice Ao99 t398.length co99] 35 (0, 0)) (BL zH.out)) : zT ≠ zR))
           have n16_ := Aside0.mk ((by rw [hg]; exact Nat.ne_of_lt (zr (g := zU) (o := .cells #[.slice Ao92 t388.length co92, .slice Ao95 t391.length co95] 35 (0, 0)) (BL zI.out)) : zU ≠ zT))
           have n17_ := Aside0.mk ((by rw [hg]; exact Nat.ne_of_gt (zr (g := zU) (o := .cells #[.slice Ao92 t388.length co92, .slice Ao95 t391.length co95] 35 (0, 0)) (BL zI.out)) : zT ≠ zU))
           have n18_ := Aside0.mk ((by rw [hg]; exact Nat.ne_of_lt (zr (g := zG) (o := .cells #[.slice Ao111 t423.length co111, .slice Ao115 t426.length co115] 35 (0, 0)) (BL zJ.out)) : zG ≠ zT))
           have n19_ := Aside0.mk ((by rw [hg]; exact Nat.ne_of_gt (zr (g := zG) (o := .cells #[.slice Ao111 t423.length co111, .slice Ao115 t426.length co115] 35 (0, 0)) (BL zJ.out)) : zT ≠ zG))
           clear zL
           clear zM
           clear zK
           clear zN
           clear zO
           clear zP
           clear zsb
           clear zH
           clear zI
           clear zJ
           clear HB
           have zL := n0_
           have zM := n1_
           have zK := n2_
           have zN := n3_
           have zO := n4_
           have zP := n5_
           have zsb := n6_
           have zH := n7_
           have zI := n8_
           have zJ := n9_
           have HB := n10_
           have zS := n11_
           have GW445 := n12_
           have zob := n13_
           have zrb := n14_
           have zub := n15_
           have ztb := n16_
           have zzb := n17_
           have zwb := n18_
           have zAb := n19_
           clear n0_ n1_ n2_ n3_ n4_ n5_ n6_ n7_ n8_ n9_ n10_ n11_ n12_ n13_ n14_ n15_ n16_ n17_ n18_ n19_
           clear hb hbox hg
           obtain ⟨Ao140, co140, eo140⟩ := Kd.R_slice zsb.out
           (first | subst eo140 | (injection eo140 with f1_ f2_ f3_; have f4_ := f1_.symm; have f5_ := f3_.symm; clear f1_ f2_ f3_; subst f4_; subst f5_))
           refine hK.out _ _ ⟨(zb zI.out 0).trans rfl, (zb zI.out 1).trans rfl⟩ (fun hHeld => ?_)
           clear hK K
           refine norm_ (a' := ?_) ?_ ?_
           rotate_left
           ·show Act.put _ (some 10) _ = _
            simp only [Act.put, List.setIfInBounds_toArray, List.set_cons_zero, List.set_cons_succ, zp, zq]
            rfl
           refine one_ (i := 3) (N := some 89) #[true, true, true, true, true, false] rfl rfl (by kernel_rfl) (by decide) (fun K hK => ?_)
           refine goes_ Try.func19 (by kernel_rfl) rfl #[.agg #[.slice Ao92 t388.length co92, .slice Ao95 t391.length co95], .slice Ao140 t436.length co140] (by rfl) rfl rfl (by (try simp only [List.map_toArray, List.map_cons, List.map_nil]); first | done | rfl) ?_
           with_reducible refine (impl_DiskCrash.calls kj81 _ _ t388 _ _ t391 _ _ t436 t439 t442 _ ?side1 ?side2 ?side3 ?side4 ?side5 ?side6 A136.out).mono ?_
           (case side1 => repeat (first | exact (Kd.R_reads' zK.out).2.2 | (with_reducible refine Kd.C_alloc ?_ _) | (with_reducible refine Kd.C_drewN ?_ _) | (with_reducible refine Kd.C_drew ?_)))
           (case side2 => exact (Kd.R_reads' zK.out).2.1)
           (case side3 => repeat (first | exact (Kd.S_reads' zN.out).2.2 | (with_reducible refine Kd.C_alloc ?_ _) | (with_reducible refine Kd.C_drewN ?_ _) | (with_reducible refine Kd.C_drew ?_)))
           (case side4 => exact (Kd.S_reads' zN.out).2.1)
           (case side5 => repeat (first | exact (Kd.R_reads' zsb.out).2.2 | (with_reducible refine Kd.C_alloc ?_ _) | (with_reducible refine Kd.C_drewN ?_ _) | (with_reducible refine Kd.C_drew ?_)))
           (case side6 => exact (Kd.R_reads' zsb.out).2.1)
           rintro e w141 ⟨v440, v443, rfl, zQ, zqb, hb⟩
           refine ⟨_, rfl, ?_⟩
           have n0_ := Aside0.mk (Kd.R_elder' (RL zL.out) (Kd.R_base zQ) hb)
           have n1_ := Aside0.mk (Kd.S_mono (Kd.S_told (Kd.S_told (Kd.S_old (SL zM.out) hb) (Kd.R_base zQ)) (Kd.S_base zqb)) (fun _ h_ => h_.1))
           have n2_ := Aside0.mk (Kd.R_elder' (RL zK.out) (Kd.R_base zQ) hb)
           have n3_ := Aside0.mk (Kd.S_mono (Kd.S_told (Kd.S_told (Kd.S_old (SL zN.out) hb) (Kd.R_base zQ)) (Kd.S_base zqb)) (fun _ h_ => h_.1))
           have n4_ := Aside0.mk (Kd.R_elder' (RL zO.out) (Kd.R_base zQ) hb)
           have n5_ := Aside0.mk (Kd.S_mono (Kd.S_told (Kd.S_told (Kd.S_old (SL zP.out) hb) (Kd.R_base zQ)) (Kd.S_base zqb)) (fun _ h_ => h_.1))
           have n6_ := Aside0.mk (Kd.R_below (RL zsb.out) hb)
           have n7_ := Aside0.mk (Kd.R_lower (Kd.R_new' (Kd.R_new' (Kd.R_new' zQ (Kd.R_lt (RL zL.out))) (Kd.R_lt (RL zK.out))) (Kd.R_lt (RL zO.out))) (zm (by repeat (first | (with_reducible first | exact HB.out | apply zf | apply ze | apply zi | refine zc ?_ zY.out | refine zc ?_ zbb.out | refine zc ?_ zgb.out | refine zc ?_ zob.out) | exact HB.out))))
           have n8_ := Aside0.mk (Kd.S_lower (Kd.S_new' (Kd.S_new' (Kd.S_new' (Kd.S_new' (Kd.S_new' (Kd.S_new' zqb (Kd.R_lt (RL zL.out))) (Kd.S_lt (SL zM.out))) (Kd.R_lt (RL zK.out))) (Kd.S_lt (SL zN.out))) (Kd.R_lt (RL zO.out))) (Kd.S_lt (SL zP.out))) (zm (by repeat (first | (with_reducible first | exact HB.out | apply zf | apply ze | apply zi | refine zc ?_ zY.out | refine zc ?_ zbb.out | refine zc ?_ zgb.out | refine zc ?_ zob.out) | exact HB.out))))
           have n9_ := Aside0.mk (zl (g := zR) (o := .cells #[.slice Ao97 t395.length co97, .slice Ao99 t398.length co99] 35 (0, 0)) (BL zH.out) hb)
           have n10_ := Aside0.mk (zl (g := zU) (o := .cells #[.slice Ao92 t388.length co92, .slice Ao95 t391.length co95] 35 (0, 0)) (BL zI.out) hb)
           have n11_ := Aside0.mk (zl (g := zG) (o := .cells #[.slice Ao111 t423.length co111, .slice Ao115 t426.length co115] 35 (0, 0)) (BL zJ.out) hb)
           have n12_ := Aside0.mk (zl (g := zT) (o := .cells #[.slice none 0 0, .slice none 0 0] 35 (0, 0)) (BL zS.out) hb)
           have n13_ := Aside0.mk (zk (by repeat (first | (with_reducible first | exact HB.out | apply zf | apply ze | apply zi | refine zc ?_ zY.out | refine zc ?_ zbb.out | refine zc ?_ zgb.out | refine zc ?_ zob.out) | exact HB.out)) hb)
           clear zL
           clear zM
           clear zK
           clear zN
           clear zO
           clear zP
           clear zsb
           clear zH
           clear zI
           clear zJ
           clear zS
           clear HB
           have zL := n0_
           have zM := n1_
           have zK := n2_
           have zN := n3_
           have zO := n4_
           have zP := n5_
           have zsb := n6_
           have zDb := n7_
           have zEb := n8_
           have zH := n9_
           have zI := n10_
           have zJ := n11_
           have zS := n12_
           have HB := n13_
           clear n0_ n1_ n2_ n3_ n4_ n5_ n6_ n7_ n8_ n9_ n10_ n11_ n12_ n13_
           (try clear hb)
           (try clear hb2)
           (try clear hk)
           (try clear hi)
           (try clear zQ)
           (try clear zqb)
           refine hK.out _ _ ⟨(zb zI.out 0).trans rfl, (zb zI.out 1).trans rfl⟩ (fun hHeld => ?_)
           clear hK K
           refine norm_ (a' := ?_) ?_ ?_
           rotate_left
           ·show Act.put _ (some 89) _ = _
            simp only [Act.put, List.setIfInBounds_toArray, List.set_cons_zero, List.set_cons_succ, zp, zq]
            rfl
           exact norm_ (by simp only [putAll, Act.put, List.setIfInBounds_toArray, List.set_cons_zero, List.set_cons_succ]) (hCont (.slice Ao140 t436.length co140, v440, v443, zT) _ ⟨hHeld, (by exact RL zsb.out), (by exact RL (Kd.R_mono zDb.out (fun _ hk => ⟨hk.1.1.2, ⟨hk.1.2, hk.2⟩⟩))), (by exact SL (Kd.S_mono zEb.out (fun _ hk => ⟨hk.1.1.1.1.1.1, ⟨hk.1.1.1.1.1.2, ⟨hk.1.1.1.1.2, ⟨hk.1.1.1.2, ⟨hk.1.1.2, ⟨hk.1.2, hk.2⟩⟩⟩⟩⟩⟩))), (by exact RL (Kd.R_mono zL.out (fun _ hk => ⟨hk.2, ⟨hk.1.1, hk.1.2⟩⟩))), (by exact SL (Kd.S_mono zM.out (fun _ hk => ⟨hk.1.2, ⟨hk.2, ⟨hk.1.1.1, ⟨hk.1.1.2.1, ⟨hk.1.1.2.2.1, ⟨hk.1.1.2.2.2.1, hk.1.1.2.2.2.2⟩⟩⟩⟩⟩⟩))), (by exact RL (Kd.R_mono zK.out (fun _ hk => ⟨hk.2, ⟨hk.1.1, hk.1.2⟩⟩))), (by exact SL (Kd.S_mono zN.out (fun _ hk => ⟨hk.1.2, ⟨hk.2, ⟨hk.1.1.1, ⟨hk.1.1.2.1, ⟨hk.1.1.2.2.1, ⟨hk.1.1.2.2.2.1, hk.1.1.2.2.2.2⟩⟩⟩⟩⟩⟩))), (by exact RL (Kd.R_mono zO.out (fun _ hk => ⟨hk.2, ⟨hk.1.1, hk.1.2⟩⟩))), (by exact SL (Kd.S_mono zP.out (fun _ hk => ⟨hk.1.2, ⟨hk.2, ⟨hk.1.1.1, ⟨hk.1.1.2.1, ⟨hk.1.1.2.2.1, ⟨hk.1.1.2.2.2.1, hk.1.1.2.2.2.2⟩⟩⟩⟩⟩⟩))), (by exact BL zH.out), (by exact BL zI.out), (by exact BL zJ.out), (by exact BL zS.out), GW445.out, zob.out, zrb.out, zub.out, ztb.out, zzb.out, zwb.out, zAb.out, (by repeat (first | (with_reducible first | exact HB.out | apply zf | apply ze | apply zi | refine zc ?_ zY.out | refine zc ?_ zbb.out | refine zc ?_ zgb.out | refine zc ?_ zob.out) | exact HB.out))⟩)
         ·skip
          refine box_step ?hg (N := 10) ?hd (cs := #[.slice none 0 0, .slice none 0 0]) (t := 35) ?hr ?_; (case hd => rfl); (case hg => rfl); (case hr => first | (go_simp; done) | (go_simp; rfl))
          intro zT hg w138 hbox hb
          have n0_ := Aside0.mk (Kd.R_below (RL zL.out) hb)
          have n1_ := Aside0.mk (Kd.S_below (SL zM.out) hb)
          have n2_ := Aside0.mk (Kd.R_below (RL zK.out) hb)
          have n3_ := Aside0.mk (Kd.S_below (SL zN.out) hb)
          have n4_ := Aside0.mk (Kd.R_below (RL zO.out) hb)
          have n5_ := Aside0.mk (Kd.S_below (SL zP.out) hb)
          have n6_ := Aside0.mk (zl (g := zR) (o := .cells #[.slice Ao97 t395.length co97, .slice Ao99 t398.length co99] 35 (0, 0)) (BL zH.out) hb)
          have n7_ := Aside0.mk (zl (g := zU) (o := .cells #[.slice Ao92 t388.length co92, .slice Ao95 t391.length co95] 35 (0, 0)) (BL zI.out) hb)
          have n8_ := Aside0.mk (zl (g := zG) (o := .cells #[.slice Ao111 t423.length co111, .slice Ao115 t426.length co115] 35 (0, 0)) (BL zJ.out) hb)
          have n9_ := Aside0.mk (zk (by repeat (first | (with_reducible first | exact HB.out | apply zf | apply ze | apply zi | refine zc ?_ zY.out | refine zc ?_ zbb.out | refine zc ?_ zgb.out) | exact HB.out)) hb)
          have n10_ := Aside0.mk (hbox)
          have n11_ := Aside0.mk ((by rw [hg]; exact (zm (by repeat (first | (with_reducible first | exact HB.out | apply zf | apply ze | apply zi | refine zc ?_ zY.out | refine zc ?_ zbb.out | refine zc ?_ zgb.out) | exact HB.out))) : w.heap.size ≤ zT))
          have n12_ := Aside0.mk ((by rw [hg]; exact (zm (by repeat (first | (with_reducible first | exact HB.out | apply zf | apply ze | apply zi | refine zc ?_ zY.out | refine zc ?_ zbb.out | refine zc ?_ zgb.out) | exact HB.out))) : w.heap.size ≤ zT))
          have n13_ := Aside0.mk ((by rw [hg]; exact Nat.ne_of_lt (zr (g := zR) (o := .cells #[.slice Ao97 t395.length co97, .slice Ao99 t398.length co99] 35 (0, 0)) (BL zH.out)) : zR ≠ zT))
          have n14_ := Aside0.mk ((by rw [hg]; exact Nat.ne_of_gt (zr (g := zR) (o := .cells #[.slice Ao97 t395.length co97, .slice Ao99 t398.length co99] 35 (0, 0)) (BL zH.out)) : zT ≠ zR))
          have n15_ := Aside0.mk ((by rw [hg]; exact Nat.ne_of_lt (zr (g := zU) (o := .cells #[.slice Ao92 t388.length co92, .slice Ao95 t391.length co95] 35 (0, 0)) (BL zI.out)) : zU ≠ zT))
          have n16_ := Aside0.mk ((by rw [hg]; exact Nat.ne_of_gt (zr (g := zU) (o := .cells #[.slice Ao92 t388.length co92, .slice Ao95 t391.length co95] 35 (0, 0)) (BL zI.out)) : zT ≠ zU))
          have n17_ := Aside0.mk ((by rw [hg]; exact Nat.ne_of_lt (zr (g := zG) (o := .cells #[.slice Ao111 t423.length co111, .slice Ao115 t426.length co115] 35 (0, 0)) (BL zJ.out)) : zG ≠ zT))
          have n18_ := Aside0.mk ((by rw [hg]; exact Nat.ne_of_gt (zr (g := zG) (o := .cells #[.slice Ao111 t423.length co111, .slice Ao115 t426.length co115] 35 (0, 0)) (BL zJ.out)) : zT ≠ zG))
          clear zL
          clear zM
          clear zK
          clear zN
          clear zO
          clear zP
          clear zH
          clear zI
          clear zJ
          clear HB
          have zL := n0_
          have zM := n1_
          have zK := n2_
          have zN := n3_
          have zO := n4_
          have zP := n5_
          have zH := n6_
          have zI := n7_
          have zJ := n8_
          have HB := n9_
          have zS := n10_
          have GW445 := n11_
          have zob := n12_
          have zrb := n13_
          have zub := n14_
          have ztb := n15_
          have zzb := n16_
          have zwb := n17_
          have zAb := n18_
          clear n0_ n1_ n2_ n3_ n4_ n5_ n6_ n7_ n8_ n9_ n10_ n11_ n12_ n13_ n14_ n15_ n16_ n17_ n18_
          clear hb hbox hg
          refine hK.out _ _ ⟨(zb zI.out 0).trans rfl, (zb zI.out 1).trans rfl⟩ (fun hHeld => ?_)
          clear hK K
          refine norm_ (a' := ?_) ?_ ?_
          rotate_left
          ·show Act.put _ (some 10) _ = _
           simp only [Act.put, List.setIfInBounds_toArray, List.set_cons_zero, List.set_cons_succ, zp, zq]
           rfl
          refine one_ (i := 2) (N := some 88) #[true, true, true, false, true, false] rfl rfl (by kernel_rfl) (by decide) (fun K hK => ?_)
          refine goes_ Try.func21 (by kernel_rfl) rfl #[.slice A1 l1.length c1, .int .i64 3] (by rfl) rfl rfl (by (try simp only [List.map_toArray, List.map_cons, List.map_nil]); first | done | rfl) ?_
          with_reducible refine (laws_lwChoices.calls kj81 _ _ l1 3 t436 _ ?side1 ?side2 A135.out).mono ?_
          (case side1 => repeat (first | exact (Kd.C_below HR1.out HB.out) | (with_reducible refine Kd.C_alloc ?_ _) | (with_reducible refine Kd.C_drewN ?_ _) | (with_reducible refine Kd.C_drew ?_)))
          (case side2 => exact HC1.out)
          rintro e w139 ⟨v437, rfl, zQ, hb⟩
          refine ⟨_, rfl, ?_⟩
          have n0_ := Aside0.mk (Kd.R_below (RL zL.out) hb)
          have n1_ := Aside0.mk (Kd.S_below (SL zM.out) hb)
          have n2_ := Aside0.mk (Kd.R_below (RL zK.out) hb)
          have n3_ := Aside0.mk (Kd.S_below (SL zN.out) hb)
          have n4_ := Aside0.mk (Kd.R_below (RL zO.out) hb)
          have n5_ := Aside0.mk (Kd.S_below (SL zP.out) hb)
          have n6_ := Aside0.mk (Kd.R_lower zQ (zm (by repeat (first | (with_reducible first | exact HB.out | apply zf | apply ze | apply zi | refine zc ?_ zY.out | refine zc ?_ zbb.out | refine zc ?_ zgb.out | refine zc ?_ zob.out) | exact HB.out))))
          have n7_ := Aside0.mk (zl (g := zR) (o := .cells #[.slice Ao97 t395.length co97, .slice Ao99 t398.length co99] 35 (0, 0)) (BL zH.out) hb)
          have n8_ := Aside0.mk (zl (g := zU) (o := .cells #[.slice Ao92 t388.length co92, .slice Ao95 t391.length co95] 35 (0, 0)) (BL zI.out) hb)
          have n9_ := Aside0.mk (zl (g := zG) (o := .cells #[.slice Ao111 t423.length co111, .slice Ao115 t426.length co115] 35 (0, 0)) (BL zJ.out) hb)
          have n10_ := Aside0.mk (zl (g := zT) (o := .cells #[.slice none 0 0, .slice none 0 0] 35 (0, 0)) (BL zS.out) hb)
          have n11_ := Aside0.mk (zk (by repeat (first | (with_reducible first | exact HB.out | apply zf | apply ze | apply zi | refine zc ?_ zY.out | refine zc ?_ zbb.out | refine zc ?_ zgb.out | refine zc ?_ zob.out) | exact HB.out)) hb)
          clear zL
          clear zM
          clear zK
          clear zN
          clear zO
          clear zP
          clear zH
          clear zI
          clear zJ
          clear zS
          clear HB
          have zL := n0_
          have zM := n1_
          have zK := n2_
          have zN := n3_
          have zO := n4_
          have zP := n5_
          have zsb := n6_
          have zH := n7_
          have zI := n8_
          have zJ := n9_
          have zS := n10_
          have HB := n11_
          clear n0_ n1_ n2_ n3_ n4_ n5_ n6_ n7_ n8_ n9_ n10_ n11_
          (try clear hb)
          (try clear hb2)
          (try clear hk)
          (try clear hi)
          (try clear zQ)
          obtain ⟨Ao140, co140, eo140⟩ := Kd.R_slice zsb.out
          (first | subst eo140 | (injection eo140 with f1_ f2_ f3_; have f4_ := f1_.symm; have f5_ := f3_.symm; clear f1_ f2_ f3_; subst f4_; subst f5_))
          refine hK.out _ _ ⟨(zb zI.out 0).trans rfl, (zb zI.out 1).trans rfl⟩ (fun hHeld => ?_)
          clear hK K
          refine norm_ (a' := ?_) ?_ ?_
          rotate_left
          ·show Act.put _ (some 88) _ = _
           simp only [Act.put, List.setIfInBounds_toArray, List.set_cons_zero, List.set_cons_succ, zp, zq]
           rfl
          refine one_ (i := 3) (N := some 89) #[true, true, true, true, true, false] rfl rfl (by kernel_rfl) (by decide) (fun K hK => ?_)
          refine goes_ Try.func19 (by kernel_rfl) rfl #[.agg #[.slice Ao92 t388.length co92, .slice Ao95 t391.length co95], .slice Ao140 t436.length co140] (by rfl) rfl rfl (by (try simp only [List.map_toArray, List.map_cons, List.map_nil]); first | done | rfl) ?_
          with_reducible refine (impl_DiskCrash.calls kj81 _ _ t388 _ _ t391 _ _ t436 t439 t442 _ ?side1 ?side2 ?side3 ?side4 ?side5 ?side6 A136.out).mono ?_
          (case side1 => repeat (first | exact (Kd.R_reads' zK.out).2.2 | (with_reducible refine Kd.C_alloc ?_ _) | (with_reducible refine Kd.C_drewN ?_ _) | (with_reducible refine Kd.C_drew ?_)))
          (case side2 => exact (Kd.R_reads' zK.out).2.1)
          (case side3 => repeat (first | exact (Kd.S_reads' zN.out).2.2 | (with_reducible refine Kd.C_alloc ?_ _) | (with_reducible refine Kd.C_drewN ?_ _) | (with_reducible refine Kd.C_drew ?_)))
          (case side4 => exact (Kd.S_reads' zN.out).2.1)
          (case side5 => repeat (first | exact (Kd.R_reads' zsb.out).2.2 | (with_reducible refine Kd.C_alloc ?_ _) | (with_reducible refine Kd.C_drewN ?_ _) | (with_reducible refine Kd.C_drew ?_)))
          (case side6 => exact (Kd.R_reads' zsb.out).2.1)
          rintro e w141 ⟨v440, v443, rfl, zQ, zqb, hb⟩
          refine ⟨_, rfl, ?_⟩
          have n0_ := Aside0.mk (Kd.R_elder' (RL zL.out) (Kd.R_base zQ) hb)
          have n1_ := Aside0.mk (Kd.S_mono (Kd.S_told (Kd.S_told (Kd.S_old (SL zM.out) hb) (Kd.R_base zQ)) (Kd.S_base zqb)) (fun _ h_ => h_.1))
          have n2_ := Aside0.mk (Kd.R_elder' (RL zK.out) (Kd.R_base zQ) hb)
          have n3_ := Aside0.mk (Kd.S_mono (Kd.S_told (Kd.S_told (Kd.S_old (SL zN.out) hb) (Kd.R_base zQ)) (Kd.S_base zqb)) (fun _ h_ => h_.1))
          have n4_ := Aside0.mk (Kd.R_elder' (RL zO.out) (Kd.R_base zQ) hb)
          have n5_ := Aside0.mk (Kd.S_mono (Kd.S_told (Kd.S_told (Kd.S_old (SL zP.out) hb) (Kd.R_base zQ)) (Kd.S_base zqb)) (fun _ h_ => h_.1))
          have n6_ := Aside0.mk (Kd.R_below (RL zsb.out) hb)
          have n7_ := Aside0.mk (Kd.R_lower (Kd.R_new' (Kd.R_new' (Kd.R_new' zQ (Kd.R_lt (RL zL.out))) (Kd.R_lt (RL zK.out))) (Kd.R_lt (RL zO.out))) (zm (by repeat (first | (with_reducible first | exact HB.out | apply zf | apply ze | apply zi | refine zc ?_ zY.out | refine zc ?_ zbb.out | refine zc ?_ zgb.out | refine zc ?_ zob.out) | exact HB.out))))
          have n8_ := Aside0.mk (Kd.S_lower (Kd.S_new' (Kd.S_new' (Kd.S_new' (Kd.S_new' (Kd.S_new' (Kd.S_new' zqb (Kd.R_lt (RL zL.out))) (Kd.S_lt (SL zM.out))) (Kd.R_lt (RL zK.out))) (Kd.S_lt (SL zN.out))) (Kd.R_lt (RL zO.out))) (Kd.S_lt (SL zP.out))) (zm (by repeat (first | (with_reducible first | exact HB.out | apply zf | apply ze | apply zi | refine zc ?_ zY.out | refine zc ?_ zbb.out | refine zc ?_ zgb.out | refine zc ?_ zob.out) | exact HB.out))))
          have n9_ := Aside0.mk (zl (g := zR) (o := .cells #[.slice Ao97 t395.length co97, .slice Ao99 t398.length co99] 35 (0, 0)) (BL zH.out) hb)
          have n10_ := Aside0.mk (zl (g := zU) (o := .cells #[.slice Ao92 t388.length co92, .slice Ao95 t391.length co95] 35 (0, 0)) (BL zI.out) hb)
          have n11_ := Aside0.mk (zl (g := zG) (o := .cells #[.slice Ao111 t423.length co111, .slice Ao115 t426.length co115] 35 (0, 0)) (BL zJ.out) hb)
          have n12_ := Aside0.mk (zl (g := zT) (o := .cells #[.slice none 0 0, .slice none 0 0] 35 (0, 0)) (BL zS.out) hb)
          have n13_ := Aside0.mk (zk (by repeat (first | (with_reducible first | exact HB.out | apply zf | apply ze | apply zi | refine zc ?_ zY.out | refine zc ?_ zbb.out | refine zc ?_ zgb.out | refine zc ?_ zob.out) | exact HB.out)) hb)
          clear zL
          clear zM
          clear zK
          clear zN
          clear zO
          clear zP
          clear zsb
          clear zH
          clear zI
          clear zJ
          clear zS
          clear HB
          have zL := n0_
          have zM := n1_
          have zK := n2_
          have zN := n3_
          have zO := n4_
          have zP := n5_
          have zsb := n6_
          have zDb := n7_
          have zEb := n8_
          have zH := n9_
          have zI := n10_
          have zJ := n11_
          have zS := n12_
          have HB := n13_
          clear n0_ n1_ n2_ n3_ n4_ n5_ n6_ n7_ n8_ n9_ n10_ n11_ n12_ n13_
          (try clear hb)
          (try clear hb2)
          (try clear hk)
          (try clear hi)
          (try clear zQ)
          (try clear zqb)
          refine hK.out _ _ ⟨(zb zI.out 0).trans rfl, (zb zI.out 1).trans rfl⟩ (fun hHeld => ?_)
          clear hK K
          refine norm_ (a' := ?_) ?_ ?_
          rotate_left
          ·show Act.put _ (some 89) _ = _
           simp only [Act.put, List.setIfInBounds_toArray, List.set_cons_zero, List.set_cons_succ, zp, zq]
           rfl
          exact norm_ (by simp only [putAll, Act.put, List.setIfInBounds_toArray, List.set_cons_zero, List.set_cons_succ]) (hCont (.slice Ao140 t436.length co140, v440, v443, zT) _ ⟨hHeld, (by exact RL zsb.out), (by exact RL (Kd.R_mono zDb.out (fun _ hk => ⟨hk.1.1.2, ⟨hk.1.2, hk.2⟩⟩))), (by exact SL (Kd.S_mono zEb.out (fun _ hk => ⟨hk.1.1.1.1.1.1, ⟨hk.1.1.1.1.1.2, ⟨hk.1.1.1.1.2, ⟨hk.1.1.1.2, ⟨hk.1.1.2, ⟨hk.1.2, hk.2⟩⟩⟩⟩⟩⟩))), (by exact RL (Kd.R_mono zL.out (fun _ hk => ⟨hk.2, ⟨hk.1.1, hk.1.2⟩⟩))), (by exact SL (Kd.S_mono zM.out (fun _ hk => ⟨hk.1.2, ⟨hk.2, ⟨hk.1.1.1, ⟨hk.1.1.2.1, ⟨hk.1.1.2.2.1, ⟨hk.1.1.2.2.2.1, hk.1.1.2.2.2.2⟩⟩⟩⟩⟩⟩))), (by exact RL (Kd.R_mono zK.out (fun _ hk => ⟨hk.2, ⟨hk.1.1, hk.1.2⟩⟩))), (by exact SL (Kd.S_mono zN.out (fun _ hk => ⟨hk.1.2, ⟨hk.2, ⟨hk.1.1.1, ⟨hk.1.1.2.1, ⟨hk.1.1.2.2.1, ⟨hk.1.1.2.2.2.1, hk.1.1.2.2.2.2⟩⟩⟩⟩⟩⟩))), (by exact RL (Kd.R_mono zO.out (fun _ hk => ⟨hk.2, ⟨hk.1.1, hk.1.2⟩⟩))), (by exact SL (Kd.S_mono zP.out (fun _ hk => ⟨hk.1.2, ⟨hk.2, ⟨hk.1.1.1, ⟨hk.1.1.2.1, ⟨hk.1.1.2.2.1, ⟨hk.1.1.2.2.2.1, hk.1.1.2.2.2.2⟩⟩⟩⟩⟩⟩))), (by exact BL zH.out), (by exact BL zI.out), (by exact BL zJ.out), (by exact BL zS.out), GW445.out, zob.out, zrb.out, zub.out, ztb.out, zzb.out, zwb.out, zAb.out, (by repeat (first | (with_reducible first | exact HB.out | apply zf | apply ze | apply zi | refine zc ?_ zY.out | refine zc ?_ zbb.out | refine zc ?_ zgb.out | refine zc ?_ zob.out) | exact HB.out))⟩)
        rintro ⟨v437, v440, v443, zT⟩ w142 ⟨hS_, h0_, h1_, h2_, h3_, h4_, h5_, h6_, h7_, h8_, h9_, h10_, h11_, h12_, h13_, h14_, h15_, h16_, h17_, h18_, h19_, h20_, h21_⟩
        have n0_ : Aside0 (Kd.R (Kd.int .i64) 2 w142 w.heap.size (fun _ => True) v437 t436) := ⟨h0_⟩
        have n1_ : Aside0 (Kd.R (Kd.int .u8) 5 w142 w.heap.size (fun k_ => some k_ ≠ (.slice Ao97 t395.length co97 : Value).ownBlock ∧ some k_ ≠ (.slice Ao92 t388.length co92 : Value).ownBlock ∧ some k_ ≠ (.slice Ao111 t423.length co111 : Value).ownBlock) v440 t439) := ⟨h1_⟩
        have n2_ : Aside0 (Kd.S k45 45 w142 w.heap.size (fun k_ => some k_ ≠ (v440 : Value).ownBlock ∧ some k_ ≠ (.slice Ao97 t395.length co97 : Value).ownBlock ∧ some k_ ≠ (.slice Ao99 t398.length co99 : Value).ownBlock ∧ some k_ ≠ (.slice Ao92 t388.length co92 : Value).ownBlock ∧ some k_ ≠ (.slice Ao95 t391.length co95 : Value).ownBlock ∧ some k_ ≠ (.slice Ao111 t423.length co111 : Value).ownBlock ∧ some k_ ≠ (.slice Ao115 t426.length co115 : Value).ownBlock) v443 t442) := ⟨h2_⟩
        have n3_ : Aside0 (Kd.R (Kd.int .u8) 5 w142 w.heap.size (fun k_ => some k_ ≠ (v440 : Value).ownBlock ∧ some k_ ≠ (.slice Ao92 t388.length co92 : Value).ownBlock ∧ some k_ ≠ (.slice Ao111 t423.length co111 : Value).ownBlock) (.slice Ao97 t395.length co97) t395) := ⟨h3_⟩
        have n4_ : Aside0 (Kd.S k45 45 w142 w.heap.size (fun k_ => some k_ ≠ (v440 : Value).ownBlock ∧ some k_ ≠ (v443 : Value).ownBlock ∧ some k_ ≠ (.slice Ao97 t395.length co97 : Value).ownBlock ∧ some k_ ≠ (.slice Ao92 t388.length co92 : Value).ownBlock ∧ some k_ ≠ (.slice Ao95 t391.length co95 : Value).ownBlock ∧ some k_ ≠ (.slice Ao111 t423.length co111 : Value).ownBlock ∧ some k_ ≠ (.slice Ao115 t426.length co115 : Value).ownBlock) (.slice Ao99 t398.length co99) t398) := ⟨h4_⟩
        have n5_ : Aside0 (Kd.R (Kd.int .u8) 5 w142 w.heap.size (fun k_ => some k_ ≠ (v440 : Value).ownBlock ∧ some k_ ≠ (.slice Ao97 t395.length co97 : Value).ownBlock ∧ some k_ ≠ (.slice Ao111 t423.length co111 : Value).ownBlock) (.slice Ao92 t388.length co92) t388) := ⟨h5_⟩
        have n6_ : Aside0 (Kd.S k45 45 w142 w.heap.size (fun k_ => some k_ ≠ (v440 : Value).ownBlock ∧ some k_ ≠ (v443 : Value).ownBlock ∧ some k_ ≠ (.slice Ao97 t395.length co97 : Value).ownBlock ∧ some k_ ≠ (.slice Ao99 t398.length co99 : Value).ownBlock ∧ some k_ ≠ (.slice Ao92 t388.length co92 : Value).ownBlock ∧ some k_ ≠ (.slice Ao111 t423.length co111 : Value).ownBlock ∧ some k_ ≠ (.slice Ao115 t426.length co115 : Value).ownBlock) (.slice Ao95 t391.length co95) t391) := ⟨h6_⟩
        have n7_ : Aside0 (Kd.R (Kd.int .u8) 5 w142 w.heap.size (fun k_ => some k_ ≠ (v440 : Value).ownBlock ∧ some k_ ≠ (.slice Ao97 t395.length co97 : Value).ownBlock ∧ some k_ ≠ (.slice Ao92 t388.length co92 : Value).ownBlock) (.slice Ao111 t423.length co111) t423) := ⟨h7_⟩
        have n8_ : Aside0 (Kd.S k45 45 w142 w.heap.size (fun k_ => some k_ ≠ (v440 : Value).ownBlock ∧ some k_ ≠ (v443 : Value).ownBlock ∧ some k_ ≠ (.slice Ao97 t395.length co97 : Value).ownBlock ∧ some k_ ≠ (.slice Ao99 t398.length co99 : Value).ownBlock ∧ some k_ ≠ (.slice Ao92 t388.length co92 : Value).ownBlock ∧ some k_ ≠ (.slice Ao95 t391.length co95 : Value).ownBlock ∧ some k_ ≠ (.slice Ao111 t423.length co111 : Value).ownBlock) (.slice Ao115 t426.length co115) t426) := ⟨h8_⟩
        have n9_ : Aside0 (w142.heap[zR]? = some (.cells #[.slice Ao97 t395.length co97, .slice Ao99 t398.length co99] 35 (0, 0))) := ⟨h9_⟩
        have n10_ : Aside0 (w142.heap[zU]? = some (.cells #[.slice Ao92 t388.length co92, .slice Ao95 t391.length co95] 35 (0, 0))) := ⟨h10_⟩
        have n11_ : Aside0 (w142.heap[zG]? = some (.cells #[.slice Ao111 t423.length co111, .slice Ao115 t426.length co115] 35 (0, 0))) := ⟨h11_⟩
        have n12_ : Aside0 (w142.heap[zT]? = some (.cells #[.slice none 0 0, .slice none 0 0] 35 (0, 0))) := ⟨h12_⟩
        have n13_ : Aside0 (w.heap.size ≤ zT) := ⟨h13_⟩
        have n14_ : Aside0 (w.heap.size ≤ zT) := ⟨h14_⟩
        have n15_ : Aside0 (zR ≠ zT) := ⟨h15_⟩
        have n16_ : Aside0 (zT ≠ zR) := ⟨h16_⟩
        have n17_ : Aside0 (zU ≠ zT) := ⟨h17_⟩
        have n18_ : Aside0 (zT ≠ zU) := ⟨h18_⟩
        have n19_ : Aside0 (zG ≠ zT) := ⟨h19_⟩
        have n20_ : Aside0 (zT ≠ zG) := ⟨h20_⟩
        have n21_ : Aside0 (Below w.heap.size w w142) := ⟨h21_⟩
        clear zL
        clear zM
        clear zK
        clear zN
        clear zO
        clear zP
        clear zH
        clear zI
        clear zJ
        clear HB
        clear h0_ h1_ h2_ h3_ h4_ h5_ h6_ h7_ h8_ h9_ h10_ h11_ h12_ h13_ h14_ h15_ h16_ h17_ h18_ h19_ h20_ h21_
        have zsb := n0_
        have zDb := n1_
        have zEb := n2_
        have zL := n3_
        have zM := n4_
        have zK := n5_
        have zN := n6_
        have zO := n7_
        have zP := n8_
        have zH := n9_
        have zI := n10_
        have zJ := n11_
        have zS := n12_
        have GW445 := n13_
        have zob := n14_
        have zrb := n15_
        have zub := n16_
        have ztb := n17_
        have zzb := n18_
        have zwb := n19_
        have zAb := n20_
        have HB := n21_
        clear n0_ n1_ n2_ n3_ n4_ n5_ n6_ n7_ n8_ n9_ n10_ n11_ n12_ n13_ n14_ n15_ n16_ n17_ n18_ n19_ n20_ n21_
        have hHeld : w142.cell? ⟨zU, 0, none⟩ = some (.slice Ao92 t388.length co92) ∧ w142.cell? ⟨zU, 1, none⟩ = some (.slice Ao95 t391.length co95) := hS_
        obtain ⟨Ao143, co143, eo143⟩ := Kd.R_slice zDb.out
        (first | subst eo143 | (injection eo143 with f1_ f2_ f3_; have f4_ := f1_.symm; have f5_ := f3_.symm; clear f1_ f2_ f3_; subst f4_; subst f5_))
        obtain ⟨Ao145, co145, eo145⟩ := Kd.S_slice zEb.out
        (first | subst eo145 | (injection eo145 with f1_ f2_ f3_; have f4_ := f1_.symm; have f5_ := f3_.symm; clear f1_ f2_ f3_; subst f4_; subst f5_))
        refine norm_ (a' := ?_) ?_ ?_
        rotate_left
        ·simp only [putAll, Act.put, List.setIfInBounds_toArray, List.set_cons_zero, List.set_cons_succ]
         rfl
        refine one_ (i := 5) (N := none) #[true, true, true, true, true, true] rfl rfl (by kernel_rfl) (by decide) (fun K hK => ?_)
        have hs144 : w142.cell? ⟨zT, 0, none⟩ = some (.slice none 0 0) := (zb zS.out 0).trans rfl
        have hfs144 := zd zS.out 0
        have hns144_0 := zrb.out
        have hns144_1 := ztb.out
        have hns144_2 := zwb.out
        have hms144_0 := zub.out
        have hms144_1 := zzb.out
        have hms144_2 := zAb.out
        have hs146 : w142.cell? ⟨zT, 1, none⟩ = some (.slice none 0 0) := (zb zS.out 1).trans rfl
        have hfs146 := zd zS.out 1
        have hns146_0 := zrb.out
        have hns146_1 := ztb.out
        have hns146_2 := zwb.out
        have hms146_0 := zub.out
        have hms146_1 := zzb.out
        have hms146_2 := zAb.out
        refine skip_ (w1 := ?_) (by rfl) rfl ?_ ?_
        rotate_left
        ·go_simp
         rfl
        refine hK.out _ _ ⟨((cell_far (p := ⟨zT, _, none⟩) ztb.out _).trans (((cell_far (p := ⟨zT, _, none⟩) ztb.out _).trans (hHeld.1)))), ((cell_far (p := ⟨zT, _, none⟩) ztb.out _).trans (((cell_far (p := ⟨zT, _, none⟩) ztb.out _).trans (hHeld.2))))⟩ (fun hHeld => ?_)
        clear hK K
        refine done_ (by kernel_rfl) ?_
        have zMc := zxb.out
        have zNc := zyb.out
        have zOc := zvb.out
        have zPc := zCb.out
        have zQc := zrb.out
        have zRc := zub.out
        have zJb : w142.cell? ⟨zR, 0, none⟩ = some (.slice Ao97 t395.length co97) := (zb zH.out 0).trans rfl
        have zKb : w142.cell? ⟨zR, 1, none⟩ = some (.slice Ao99 t398.length co99) := (zb zH.out 1).trans rfl
        have zLb := zd zH.out 0
        have zMb := zd zH.out 1
        try go_wp2
        go_loopg [12] kj81 (fun kq v12 w' => ∃ (x12_3 : Int), v12 = .int .i64 x12_3 ∧ Aside0 (laws_FnSync.l0 kq t401 (wrap64 ((t395.length : Int) / 64)) x12_3 t395 t398 t439 t442 = some r) ∧ Aside0 (kq ≤ kj81) ∧ Aside0 (Kd.R (Kd.int .u8) 5 w' w.heap.size (fun k_ => some k_ ≠ ((.slice Ao92 t388.length co92) : Value).ownBlock ∧ some k_ ≠ ((.slice Ao111 t423.length co111) : Value).ownBlock ∧ some k_ ≠ ((.slice Ao143 t439.length co143) : Value).ownBlock) (.slice Ao97 t395.length co97) t395) ∧ Aside0 (Kd.S k45 45 w' w.heap.size (fun k_ => some k_ ≠ ((.slice Ao97 t395.length co97) : Value).ownBlock ∧ some k_ ≠ ((.slice Ao92 t388.length co92) : Value).ownBlock ∧ some k_ ≠ ((.slice Ao95 t391.length co95) : Value).ownBlock ∧ some k_ ≠ ((.slice Ao111 t423.length co111) : Value).ownBlock ∧ some k_ ≠ ((.slice Ao115 t426.length co115) : Value).ownBlock ∧ some k_ ≠ ((.slice Ao143 t439.length co143) : Value).ownBlock ∧ some k_ ≠ ((.slice Ao145 t442.length co145) : Value).ownBlock) (.slice Ao99 t398.length co99) t398) ∧ Aside0 (Kd.R (Kd.int .u8) 5 w' w.heap.size (fun k_ => some k_ ≠ ((.slice Ao97 t395.length co97) : Value).ownBlock ∧ some k_ ≠ ((.slice Ao111 t423.length co111) : Value).ownBlock ∧ some k_ ≠ ((.slice Ao143 t439.length co143) : Value).ownBlock) (.slice Ao92 t388.length co92) t388) ∧ Aside0 (Kd.S k45 45 w' w.heap.size (fun k_ => some k_ ≠ ((.slice Ao97 t395.length co97) : Value).ownBlock ∧ some k_ ≠ ((.slice Ao99 t398.length co99) : Value).ownBlock ∧ some k_ ≠ ((.slice Ao92 t388.length co92) : Value).ownBlock ∧ some k_ ≠ ((.slice Ao111 t423.length co111) : Value).ownBlock ∧ some k_ ≠ ((.slice Ao115 t426.length co115) : Value).ownBlock ∧ some k_ ≠ ((.slice Ao143 t439.length co143) : Value).ownBlock ∧ some k_ ≠ ((.slice Ao145 t442.length co145) : Value).ownBlock) (.slice Ao95 t391.length co95) t391) ∧ Aside0 (Kd.R (Kd.int .u8) 5 w' w.heap.size (fun k_ => some k_ ≠ ((.slice Ao97 t395.length co97) : Value).ownBlock ∧ some k_ ≠ ((.slice Ao92 t388.length co92) : Value).ownBlock ∧ some k_ ≠ ((.slice Ao143 t439.length co143) : Value).ownBlock) (.slice Ao111 t423.length co111) t423) ∧ Aside0 (Kd.S k45 45 w' w.heap.size (fun k_ => some k_ ≠ ((.slice Ao97 t395.length co97) : Value).ownBlock ∧ some k_ ≠ ((.slice Ao99 t398.length co99) : Value).ownBlock ∧ some k_ ≠ ((.slice Ao92 t388.length co92) : Value).ownBlock ∧ some k_ ≠ ((.slice Ao95 t391.length co95) : Value).ownBlock ∧ some k_ ≠ ((.slice Ao111 t423.length co111) : Value).ownBlock ∧ some k_ ≠ ((.slice Ao143 t439.length co143) : Value).ownBlock ∧ some k_ ≠ ((.slice Ao145 t442.length co145) : Value).ownBlock) (.slice Ao115 t426.length co115) t426) ∧ Aside0 (Kd.R (Kd.int .u8) 5 w' w.heap.size (fun k_ => some k_ ≠ ((.slice Ao97 t395.length co97) : Value).ownBlock ∧ some k_ ≠ ((.slice Ao92 t388.length co92) : Value).ownBlock ∧ some k_ ≠ ((.slice Ao111 t423.length co111) : Value).ownBlock) (.slice Ao143 t439.length co143) t439) ∧ Aside0 (Kd.S k45 45 w' w.heap.size (fun k_ => some k_ ≠ ((.slice Ao97 t395.length co97) : Value).ownBlock ∧ some k_ ≠ ((.slice Ao99 t398.length co99) : Value).ownBlock ∧ some k_ ≠ ((.slice Ao92 t388.length co92) : Value).ownBlock ∧ some k_ ≠ ((.slice Ao95 t391.length co95) : Value).ownBlock ∧ some k_ ≠ ((.slice Ao111 t423.length co111) : Value).ownBlock ∧ some k_ ≠ ((.slice Ao115 t426.length co115) : Value).ownBlock ∧ some k_ ≠ ((.slice Ao143 t439.length co143) : Value).ownBlock) (.slice Ao145 t442.length co145) t442) ∧ Aside0 (w'.heap[zR]? = some (.cells #[(.slice Ao97 t395.length co97), (.slice Ao99 t398.length co99)] 35 (0, 0))) ∧ Aside0 (w'.heap[zU]? = some (.cells #[(.slice Ao92 t388.length co92), (.slice Ao95 t391.length co95)] 35 (0, 0))) ∧ Aside0 (w'.heap[zG]? = some (.cells #[(.slice Ao111 t423.length co111), (.slice Ao115 t426.length co115)] 35 (0, 0))) ∧ Aside0 (w'.heap[zT]? = some (.cells #[(.slice Ao143 t439.length co143), (.slice Ao145 t442.length co145)] 35 (0, 0))) ∧ Aside0 (Below w.heap.size w w'))
        case atStart => exact ⟨(0), (by first | rfl | (simp; done) | (simp [*]; done)), H', ⟨Nat.le_refl _⟩, ⟨RL (Kd.R_mono (Kd.R_far (p := ⟨zT, 1, none⟩) (Kd.R_far (p := ⟨zT, 0, none⟩) (Kd.R_types zL.out zS.out (by decide)) (fun _ hk => hk.2) (.slice Ao143 t439.length co143)) (fun _ hk => hk.2) (.slice Ao145 t442.length co145)) (fun _ hk => ⟨hk.1.2.1, ⟨hk.1.2.2, hk.1.1⟩⟩))⟩, ⟨SL (Kd.S_mono (Kd.S_far (p := ⟨zT, 1, none⟩) (Kd.S_far (p := ⟨zT, 0, none⟩) (Kd.S_types zM.out zS.out (by decide)) (fun _ hk => hk.2) (.slice Ao143 t439.length co143)) (fun _ hk => hk.2) (.slice Ao145 t442.length co145)) (fun _ hk => ⟨hk.1.2.2.1, ⟨hk.1.2.2.2.1, ⟨hk.1.2.2.2.2.1, ⟨hk.1.2.2.2.2.2.1, ⟨hk.1.2.2.2.2.2.2, ⟨hk.1.1, hk.1.2.1⟩⟩⟩⟩⟩⟩))⟩, ⟨RL (Kd.R_mono (Kd.R_far (p := ⟨zT, 1, none⟩) (Kd.R_far (p := ⟨zT, 0, none⟩) (Kd.R_types zK.out zS.out (by decide)) (fun _ hk => hk.2) (.slice Ao143 t439.length co143)) (fun _ hk => hk.2) (.slice Ao145 t442.length co145)) (fun _ hk => ⟨hk.1.2.1, ⟨hk.1.2.2, hk.1.1⟩⟩))⟩, ⟨SL (Kd.S_mono (Kd.S_far (p := ⟨zT, 1, none⟩) (Kd.S_far (p := ⟨zT, 0, none⟩) (Kd.S_types zN.out zS.out (by decide)) (fun _ hk => hk.2) (.slice Ao143 t439.length co143)) (fun _ hk => hk.2) (.slice Ao145 t442.length co145)) (fun _ hk => ⟨hk.1.2.2.1, ⟨hk.1.2.2.2.1, ⟨hk.1.2.2.2.2.1, ⟨hk.1.2.2.2.2.2.1, ⟨hk.1.2.2.2.2.2.2, ⟨hk.1.1, hk.1.2.1⟩⟩⟩⟩⟩⟩))⟩, ⟨RL (Kd.R_mono (Kd.R_far (p := ⟨zT, 1, none⟩) (Kd.R_far (p := ⟨zT, 0, none⟩) (Kd.R_types zO.out zS.out (by decide)) (fun _ hk => hk.2) (.slice Ao143 t439.length co143)) (fun _ hk => hk.2) (.slice Ao145 t442.length co145)) (fun _ hk => ⟨hk.1.2.1, ⟨hk.1.2.2, hk.1.1⟩⟩))⟩, ⟨SL (Kd.S_mono (Kd.S_far (p := ⟨zT, 1, none⟩) (Kd.S_far (p := ⟨zT, 0, none⟩) (Kd.S_types zP.out zS.out (by decide)) (fun _ hk => hk.2) (.slice Ao143 t439.length co143)) (fun _ hk => hk.2) (.slice Ao145 t442.length co145)) (fun _ hk => ⟨hk.1.2.2.1, ⟨hk.1.2.2.2.1, ⟨hk.1.2.2.2.2.1, ⟨hk.1.2.2.2.2.2.1, ⟨hk.1.2.2.2.2.2.2, ⟨hk.1.1, hk.1.2.1⟩⟩⟩⟩⟩⟩))⟩, ⟨RL (Kd.R_mono (Kd.R_far (p := ⟨zT, 1, none⟩) (Kd.R_far (p := ⟨zT, 0, none⟩) (Kd.R_types zDb.out zS.out (by decide)) (fun _ hk => hk.2) (.slice Ao143 t439.length co143)) (fun _ hk => hk.2) (.slice Ao145 t442.length co145)) (fun _ hk => ⟨hk.1.1, ⟨hk.1.2.1, hk.1.2.2⟩⟩))⟩, ⟨SL (Kd.S_mono (Kd.S_far (p := ⟨zT, 1, none⟩) (Kd.S_far (p := ⟨zT, 0, none⟩) (Kd.S_types zEb.out zS.out (by decide)) (fun _ hk => hk.2) (.slice Ao143 t439.length co143)) (fun _ hk => hk.2) (.slice Ao145 t442.length co145)) (fun _ hk => ⟨hk.1.2.1, ⟨hk.1.2.2.1, ⟨hk.1.2.2.2.1, ⟨hk.1.2.2.2.2.1, ⟨hk.1.2.2.2.2.2.1, ⟨hk.1.2.2.2.2.2.2, hk.1.1⟩⟩⟩⟩⟩⟩))⟩, ⟨by (with_reducible repeat (first | refine zj ?_ _ | refine zg ?_ | refine zh ?_ _)); refine zE ?_ zrb.out _; (with_reducible repeat (first | refine zj ?_ _ | refine zg ?_ | refine zh ?_ _)); refine zE ?_ zrb.out _; (with_reducible repeat (first | refine zj ?_ _ | refine zg ?_ | refine zh ?_ _)); exact zH.out⟩, ⟨by (with_reducible repeat (first | refine zj ?_ _ | refine zg ?_ | refine zh ?_ _)); refine zE ?_ ztb.out _; (with_reducible repeat (first | refine zj ?_ _ | refine zg ?_ | refine zh ?_ _)); refine zE ?_ ztb.out _; (with_reducible repeat (first | refine zj ?_ _ | refine zg ?_ | refine zh ?_ _)); exact zI.out⟩, ⟨by (with_reducible repeat (first | refine zj ?_ _ | refine zg ?_ | refine zh ?_ _)); refine zE ?_ zwb.out _; (with_reducible repeat (first | refine zj ?_ _ | refine zg ?_ | refine zh ?_ _)); refine zE ?_ zwb.out _; (with_reducible repeat (first | refine zj ?_ _ | refine zg ?_ | refine zh ?_ _)); exact zJ.out⟩, ⟨by (with_reducible repeat (first | refine zj ?_ _ | refine zg ?_ | refine zh ?_ _)); refine zz (cs := #[.slice Ao143 t439.length co143, .slice none 0 0]) ?_ 1 _ rfl; (with_reducible repeat (first | refine zj ?_ _ | refine zg ?_ | refine zh ?_ _)); refine zz (cs := #[.slice none 0 0, .slice none 0 0]) ?_ 0 _ rfl; (with_reducible repeat (first | refine zj ?_ _ | refine zg ?_ | refine zh ?_ _)); exact zS.out⟩, ⟨by repeat (first | (with_reducible first | exact HB.out | apply zf | apply ze | apply zi | refine zc ?_ zY.out | refine zc ?_ zbb.out | refine zc ?_ zgb.out | refine zc ?_ zob.out) | exact HB.out)⟩⟩
        case round =>
         clear H'
         try clear c1
         try clear c2
         try clear p2
         try clear p6
         try clear c14
         try clear c19
         try clear c21
         try clear p64
         try clear c147
         try clear c148
         try clear c149
         try clear zJb
         try clear zKb
         try clear zLb
         try clear zMb
         obtain ⟨x12_3, rfl, HA, HK3, zL, zM, zK, zN, zO, zP, zab, zeb, zH, zI, zJ, zS, HB⟩ := hrel
         cases gk with
         | zero => exact absurd HA.out (by simp [laws_FnSync.l0])
         | succ k3 =>
          have H := HA.out
          clear HA
          simp only [laws_FnSync.l0] at H
          by_cases c151 : x12_3 < (wrap64 ((t395.length : Int) / 64))
          ·rw [if_pos c151] at H
           have c151b0 : decide (x12_3 < (wrap64 ((t395.length : Int) / 64))) = true := decide_eq_true c151
           clear c151
           have H' := Aside0.mk H
           clear H
           go_wp2
           go_loopg [13, 14] k3 (fun kq v13 v14 w' => ∃ (x13_4 : Bool) (x14_4 : Int), v13 = .bool x13_4 ∧ v14 = .int .i64 x14_4 ∧ Aside0 (laws_FnSync.l1 kq t401 (wrap64 ((t395.length : Int) / 64)) x12_3 x13_4 x14_4 t395 t398 t439 t442 = some r) ∧ Aside0 (kq ≤ k3) ∧ Aside0 (Kd.R (Kd.int .u8) 5 w' w.heap.size (fun k_ => some k_ ≠ ((.slice Ao92 t388.length co92) : Value).ownBlock ∧ some k_ ≠ ((.slice Ao111 t423.length co111) : Value).ownBlock ∧ some k_ ≠ ((.slice Ao143 t439.length co143) : Value).ownBlock) (.slice Ao97 t395.length co97) t395) ∧ Aside0 (Kd.S k45 45 w' w.heap.size (fun k_ => some k_ ≠ ((.slice Ao97 t395.length co97) : Value).ownBlock ∧ some k_ ≠ ((.slice Ao92 t388.length co92) : Value).ownBlock ∧ some k_ ≠ ((.slice Ao95 t391.length co95) : Value).ownBlock ∧ some k_ ≠ ((.slice Ao111 t423.length co111) : Value).ownBlock ∧ some k_ ≠ ((.slice Ao115 t426.length co115) : Value).ownBlock ∧ some k_ ≠ ((.slice Ao143 t439.length co143) : Value).ownBlock ∧ some k_ ≠ ((.slice Ao145 t442.length co145) : Value).ownBlock) (.slice Ao99 t398.length co99) t398) ∧ Aside0 (Kd.R (Kd.int .u8) 5 w' w.heap.size (fun k_ => some k_ ≠ ((.slice Ao97 t395.length co97) : Value).ownBlock ∧ some k_ ≠ ((.slice Ao111 t423.length co111) : Value).ownBlock ∧ some k_ ≠ ((.slice Ao143 t439.length co143) : Value).ownBlock) (.slice Ao92 t388.length co92) t388) ∧ Aside0 (Kd.S k45 45 w' w.heap.size (fun k_ => some k_ ≠ ((.slice Ao97 t395.length co97) : Value).ownBlock ∧ some k_ ≠ ((.slice Ao99 t398.length co99) : Value).ownBlock ∧ some k_ ≠ ((.slice Ao92 t388.length co92) : Value).ownBlock ∧ some k_ ≠ ((.slice Ao111 t423.length co111) : Value).ownBlock ∧ some k_ ≠ ((.slice Ao115 t426.length co115) : Value).ownBlock ∧ some k_ ≠ ((.slice Ao143 t439.length co143) : Value).ownBlock ∧ some k_ ≠ ((.slice Ao145 t442.length co145) : Value).ownBlock) (.slice Ao95 t391.length co95) t391) ∧ Aside0 (Kd.R (Kd.int .u8) 5 w' w.heap.size (fun k_ => some k_ ≠ ((.slice Ao97 t395.length co97) : Value).ownBlock ∧ some k_ ≠ ((.slice Ao92 t388.length co92) : Value).ownBlock ∧ some k_ ≠ ((.slice Ao143 t439.length co143) : Value).ownBlock) (.slice Ao111 t423.length co111) t423) ∧ Aside0 (Kd.S k45 45 w' w.heap.size (fun k_ => some k_ ≠ ((.slice Ao97 t395.length co97) : Value).ownBlock ∧ some k_ ≠ ((.slice Ao99 t398.length co99) : Value).ownBlock ∧ some k_ ≠ ((.slice Ao92 t388.length co92) : Value).ownBlock ∧ some k_ ≠ ((.slice Ao95 t391.length co95) : Value).ownBlock ∧ some k_ ≠ ((.slice Ao111 t423.length co111) : Value).ownBlock ∧ some k_ ≠ ((.slice Ao143 t439.length co143) : Value).ownBlock ∧ some k_ ≠ ((.slice Ao145 t442.length co145) : Value).ownBlock) (.slice Ao115 t426.length co115) t426) ∧ Aside0 (Kd.R (Kd.int .u8) 5 w' w.heap.size (fun k_ => some k_ ≠ ((.slice Ao97 t395.length co97) : Value).ownBlock ∧ some k_ ≠ ((.slice Ao92 t388.length co92) : Value).ownBlock ∧ some k_ ≠ ((.slice Ao111 t423.length co111) : Value).ownBlock) (.slice Ao143 t439.length co143) t439) ∧ Aside0 (Kd.S k45 45 w' w.heap.size (fun k_ => some k_ ≠ ((.slice Ao97 t395.length co97) : Value).ownBlock ∧ some k_ ≠ ((.slice Ao99 t398.length co99) : Value).ownBlock ∧ some k_ ≠ ((.slice Ao92 t388.length co92) : Value).ownBlock ∧ some k_ ≠ ((.slice Ao95 t391.length co95) : Value).ownBlock ∧ some k_ ≠ ((.slice Ao111 t423.length co111) : Value).ownBlock ∧ some k_ ≠ ((.slice Ao115 t426.length co115) : Value).ownBlock ∧ some k_ ≠ ((.slice Ao143 t439.length co143) : Value).ownBlock) (.slice Ao145 t442.length co145) t442) ∧ Aside0 (w'.heap[zR]? = some (.cells #[(.slice Ao97 t395.length co97), (.slice Ao99 t398.length co99)] 35 (0, 0))) ∧ Aside0 (w'.heap[zU]? = some (.cells #[(.slice Ao92 t388.length co92), (.slice Ao95 t391.length co95)] 35 (0, 0))) ∧ Aside0 (w'.heap[zG]? = some (.cells #[(.slice Ao111 t423.length co111), (.slice Ao115 t426.length co115)] 35 (0, 0))) ∧ Aside0 (w'.heap[zT]? = some (.cells #[(.slice Ao143 t439.length co143), (.slice Ao145 t442.length co145)] 35 (0, 0))) ∧ Aside0 (Below w.heap.size w w'))
           case atStart => exact ⟨((x12_3 != t401)), (0), (by first | rfl | (simp; done) | (simp [*]; done)), (by first | rfl | (simp; done) | (simp [*]; done)), H', ⟨Nat.le_refl _⟩, ⟨RL zL.out⟩, ⟨SL zM.out⟩, ⟨RL zK.out⟩, ⟨SL zN.out⟩, ⟨RL zO.out⟩, ⟨SL zP.out⟩, ⟨RL zab.out⟩, ⟨SL zeb.out⟩, ⟨BL zH.out⟩, ⟨BL zI.out⟩, ⟨BL zJ.out⟩, ⟨BL zS.out⟩, ⟨by repeat (first | (with_reducible first | exact HB.out | apply zf | apply ze | apply zi | refine zc ?_ zY.out | refine zc ?_ zbb.out | refine zc ?_ zgb.out | refine zc ?_ zob.out) | exact HB.out)⟩⟩
           case round =>
            clear H'
            try clear c1
            try clear c2
            try clear p2
            try clear p6
            try clear c14
            try clear c15
            try clear c19
            try clear c21
            try clear p64
            try clear c147
            try clear c148
            try clear c149
            try clear c151
            try clear c151b0
            try clear zJb
            try clear zKb
            try clear zLb
            try clear zMb
            try clear p2
            try clear p6
            try clear p64
            obtain ⟨x13_4, x14_4, rfl, rfl, HA, HK4, zL, zM, zK, zN, zO, zP, zab, zeb, zH, zI, zJ, zS, HB⟩ := hrel
            cases gk with
            | zero => exact absurd HA.out (by simp [laws_FnSync.l1])
            | succ k4 =>
             have H := HA.out
             clear HA
             simp only [laws_FnSync.l1] at H
             by_cases c152 : x14_4 < (t398.length : Int)
             ·rw [if_pos c152] at H
              have c152b0 : decide (x14_4 < (t398.length : Int)) = true := decide_eq_true c152
              clear c152
              by_cases c153 : 0 ≤ x14_4
              ·rw [if_pos c153] at H
               have c153b0 : decide (0 ≤ x14_4) = true := decide_eq_true c153
               clear c153
               by_cases c154 : ((rd_T45 t398 x14_4).f0) = x12_3
               ·as_aux_lemma =>
                 rw [if_pos c154] at H
                 have c154b0 : (((rd_T45 t398 x14_4).f0) == x12_3) = true := beq_iff_eq.mpr c154
                 have c154b1 : (((rd_T45 t398 x14_4).f0) != x12_3) = false := bne_eq_false_iff_eq.mpr c154
                 clear c154
                 have H' := Aside0.mk H
                 clear H
                 have zSc := zxb.out
                 have zTc := zyb.out
                 have zUc := zvb.out
                 have zVc := zCb.out
                 have zWc := zrb.out
                 have zXc := zub.out
                 have zYb : wr.cell? ⟨zR, 0, none⟩ = some (.slice Ao97 t395.length co97) := (zb zH.out 0).trans rfl
                 have zZb : wr.cell? ⟨zR, 1, none⟩ = some (.slice Ao99 t398.length co99) := (zb zH.out 1).trans rfl
                 have zac := zd zH.out 0
                 have zbc := zd zH.out 1
                 have p446 : 0 ≤ (x14_4 : Int) := of_decide_eq_true (by first | (with_reducible assumption) | assumption)
                 have q446 : x14_4 < (t398.length : Int) := of_decide_eq_true (by first | (with_reducible assumption) | assumption)
                 obtain ⟨ad446, A446_1, c446_1, e446, hx446_0, hx446_1, hl446_1, hi446_1⟩ := at_T45 (Kd.S_reads' zM.out).2.2 x14_4 p446 q446
                 cases e446
                 obtain ⟨ce446, hce446, hMe446, hcc446⟩ := Kd.S_get zM.out z45 x14_4 p446 (by first | exact q446 | exact of_decide_eq_true (by first | (with_reducible assumption) | assumption) | (have e_ := (Kd.S_reads' zM.out).1; omega))
                 obtain ⟨ve446_1, rfl, ge446_1⟩ := k45_openM hMe446
                 have hv446_1 := hcc446 1 _ rfl
                 rw [add_field _ _ 1 (by omega)] at hv446_1
                 replace hv446_1 := Option.some.inj (hv446_1.symm.trans hx446_1)
                 rw [hv446_1] at ge446_1
                 have HL446_1 := Aside0.mk (show Kd.R (Kd.int .u8) 5 _ _ _ _ ((rd_T45 t398 x14_4).f1) from ge446_1)
                 clear hv446_1 ge446_1
                 clear hcc446 hce446
                 have HR446_1 := Aside0.mk hi446_1
                 have HC446_1 := Aside0.mk hl446_1
                 clear hi446_1 hl446_1
                 replace p446 := eq_true p446
                 replace q446 := eq_true q446
                 go_wp2
                 go_roundg k4
                 case measure => have := HJ2.out; have := HJ81.out; have := HK3.out; have := HK4.out; omega
                 case rel => exact ⟨(false), (wrap64 (x14_4 + 1)), (by first | rfl | (simp; done) | (simp [*]; done)), (by first | rfl | (simp; done) | (simp [*]; done)), H', ⟨by have := HJ2.out; have := HJ81.out; have := HK3.out; have := HK4.out; omega⟩, ⟨RL zL.out⟩, ⟨SL zM.out⟩, ⟨RL zK.out⟩, ⟨SL zN.out⟩, ⟨RL zO.out⟩, ⟨SL zP.out⟩, ⟨RL zab.out⟩, ⟨SL zeb.out⟩, ⟨BL zH.out⟩, ⟨BL zI.out⟩, ⟨BL zJ.out⟩, ⟨BL zS.out⟩, ⟨by repeat (first | (with_reducible first | exact HB.out | apply zf | apply ze | apply zi | refine zc ?_ zY.out | refine zc ?_ zbb.out | refine zc ?_ zgb.out | refine zc ?_ zob.out) | exact HB.out)⟩⟩
               ·as_aux_lemma =>
                 rw [if_neg c154] at H
                 have c154b0 : (((rd_T45 t398 x14_4).f0) == x12_3) = false := beq_eq_false_iff_ne.mpr c154
                 have c154b1 : (((rd_T45 t398 x14_4).f0) != x12_3) = true := bne_iff_ne.mpr c154
                 have H' := Aside0.mk H
                 clear H
                 have zYc := zxb.out
                 have zZc := zyb.out
                 have zad := zvb.out
                 have zbd := zCb.out
                 have zcd := zrb.out
                 have zdd := zub.out
                 have zcc : wr.cell? ⟨zR, 0, none⟩ = some (.slice Ao97 t395.length co97) := (zb zH.out 0).trans rfl
                 have zdc : wr.cell? ⟨zR, 1, none⟩ = some (.slice Ao99 t398.length co99) := (zb zH.out 1).trans rfl
                 have zec := zd zH.out 0
                 have zfc := zd zH.out 1
                 have p446 : 0 ≤ (x14_4 : Int) := of_decide_eq_true (by first | (with_reducible assumption) | assumption)
                 have q446 : x14_4 < (t398.length : Int) := of_decide_eq_true (by first | (with_reducible assumption) | assumption)
                 obtain ⟨ad446, A446_1, c446_1, e446, hx446_0, hx446_1, hl446_1, hi446_1⟩ := at_T45 (Kd.S_reads' zM.out).2.2 x14_4 p446 q446
                 cases e446
                 obtain ⟨ce446, hce446, hMe446, hcc446⟩ := Kd.S_get zM.out z45 x14_4 p446 (by first | exact q446 | exact of_decide_eq_true (by first | (with_reducible assumption) | assumption) | (have e_ := (Kd.S_reads' zM.out).1; omega))
                 obtain ⟨ve446_1, rfl, ge446_1⟩ := k45_openM hMe446
                 have hv446_1 := hcc446 1 _ rfl
                 rw [add_field _ _ 1 (by omega)] at hv446_1
                 replace hv446_1 := Option.some.inj (hv446_1.symm.trans hx446_1)
                 rw [hv446_1] at ge446_1
                 have HL446_1 := Aside0.mk (show Kd.R (Kd.int .u8) 5 _ _ _ _ ((rd_T45 t398 x14_4).f1) from ge446_1)
                 clear hv446_1 ge446_1
                 clear hcc446 hce446
                 have HR446_1 := Aside0.mk hi446_1
                 have HC446_1 := Aside0.mk hl446_1
                 clear hi446_1 hl446_1
                 replace p446 := eq_true p446
                 replace q446 := eq_true q446
                 go_wp2
                 go_roundg k4
                 case measure => have := HJ2.out; have := HJ81.out; have := HK3.out; have := HK4.out; omega
                 case rel => exact ⟨(x13_4), (wrap64 (x14_4 + 1)), (by first | rfl | (simp; done) | (simp [*]; done)), (by first | rfl | (simp; done) | (simp [*]; done)), H', ⟨by have := HJ2.out; have := HJ81.out; have := HK3.out; have := HK4.out; omega⟩, ⟨RL zL.out⟩, ⟨SL zM.out⟩, ⟨RL zK.out⟩, ⟨SL zN.out⟩, ⟨RL zO.out⟩, ⟨SL zP.out⟩, ⟨RL zab.out⟩, ⟨SL zeb.out⟩, ⟨BL zH.out⟩, ⟨BL zI.out⟩, ⟨BL zJ.out⟩, ⟨BL zS.out⟩, ⟨by repeat (first | (with_reducible first | exact HB.out | apply zf | apply ze | apply zi | refine zc ?_ zY.out | refine zc ?_ zbb.out | refine zc ?_ zgb.out | refine zc ?_ zob.out) | exact HB.out)⟩⟩
              ·rw [if_neg c153] at H
               exact absurd H (by simp)
             ·rw [if_neg c152] at H
              have c152b0 : decide (x14_4 < (t398.length : Int)) = false := decide_eq_false c152
              clear c152
              by_cases c163 : x13_4 = true
              ·subst c163
               have H1 : ((impl_DiskRead.f k4 t439 t442 x12_3).bind fun t447 => ((spec_DiskRead.f k4 t395 t398 x12_3).bind fun t450 => (if (strOfNums t447).toList = (strOfNums t450).toList then (laws_FnSync.l0 k4 t401 (wrap64 ((t395.length : Int) / 64)) (wrap64 (x12_3 + 1)) t395 t398 t439 t442) else none))) = some r := by rw [if_pos rfl] at H; exact H
               clear H
               have H := H1
               clear H1
               replace H := Option.bind_eq_some_iff.mp H
               obtain ⟨t447, A1640, H⟩ := H
               replace H : ((spec_DiskRead.f k4 t395 t398 x12_3).bind fun t450 => (if (strOfNums t447).toList = (strOfNums t450).toList then (laws_FnSync.l0 k4 t401 (wrap64 ((t395.length : Int) / 64)) (wrap64 (x12_3 + 1)) t395 t398 t439 t442) else none)) = some r := H
               have A164 := Aside0.mk A1640
               clear A1640
               replace H := Option.bind_eq_some_iff.mp H
               obtain ⟨t450, A1650, H⟩ := H
               replace H : (if (strOfNums t447).toList = (strOfNums t450).toList then (laws_FnSync.l0 k4 t401 (wrap64 ((t395.length : Int) / 64)) (wrap64 (x12_3 + 1)) t395 t398 t439 t442) else none) = some r := H
               have A165 := Aside0.mk A1650
               clear A1650
               by_cases c166 : (strOfNums t447).toList = (strOfNums t450).toList
               ·rw [if_pos c166] at H
                have c166b0 : ((strOfNums t447).toList == (strOfNums t450).toList) = true := beq_iff_eq.mpr c166
                have c166b1 : ((strOfNums t447).toList != (strOfNums t450).toList) = false := bne_eq_false_iff_eq.mpr c166
                clear c166
                have H' := Aside0.mk H
                clear H
                have zed := zxb.out
                have zfd := zyb.out
                have zgd := zvb.out
                have zhd := zCb.out
                have zid := zrb.out
                have zjd := zub.out
                have zgc : wr.cell? ⟨zR, 0, none⟩ = some (.slice Ao97 t395.length co97) := (zb zH.out 0).trans rfl
                have zhc : wr.cell? ⟨zR, 1, none⟩ = some (.slice Ao99 t398.length co99) := (zb zH.out 1).trans rfl
                have zic := zd zH.out 0
                have zjc := zd zH.out 1
                try go_wp2
                have n0_ := Aside0.mk (Kd.R_drew zL.out)
                have n1_ := Aside0.mk (Kd.S_drew zM.out)
                have n2_ := Aside0.mk (Kd.R_drew zK.out)
                have n3_ := Aside0.mk (Kd.S_drew zN.out)
                have n4_ := Aside0.mk (Kd.R_drew zO.out)
                have n5_ := Aside0.mk (Kd.S_drew zP.out)
                have n6_ := Aside0.mk (Kd.R_drew zab.out)
                have n7_ := Aside0.mk (Kd.S_drew zeb.out)
                have n8_ := Aside0.mk (zg zH.out)
                have n9_ := Aside0.mk (zg zI.out)
                have n10_ := Aside0.mk (zg zJ.out)
                have n11_ := Aside0.mk (zg zS.out)
                have n12_ := Aside0.mk (zi HB.out)
                clear zL
                clear zM
                clear zK
                clear zN
                clear zO
                clear zP
                clear zab
                clear zeb
                clear zH
                clear zI
                clear zJ
                clear zS
                clear HB
                have zL := n0_
                have zM := n1_
                have zK := n2_
                have zN := n3_
                have zO := n4_
                have zP := n5_
                have zab := n6_
                have zeb := n7_
                have zH := n8_
                have zI := n9_
                have zJ := n10_
                have zS := n11_
                have HB := n12_
                clear n0_ n1_ n2_ n3_ n4_ n5_ n6_ n7_ n8_ n9_ n10_ n11_ n12_
                refine start_ (n := 12) (S := fun w' => w'.cell? ⟨zT, 0, none⟩ = some (.slice Ao143 t439.length co143) ∧ w'.cell? ⟨zT, 1, none⟩ = some (.slice Ao145 t442.length co145) ∧ w'.cell? ⟨zR, 0, none⟩ = some (.slice Ao97 t395.length co97) ∧ w'.cell? ⟨zR, 1, none⟩ = some (.slice Ao99 t398.length co99)) (ds := []) #[false, false, false, false, false, false, false, false, false, false, false, false] (by kernel_rfl) rfl rfl ⟨(zb zS.out 0).trans rfl, (zb zS.out 1).trans rfl, (zb zH.out 0).trans rfl, (zb zH.out 1).trans rfl⟩ (fun hHeld => ?_); refine with_tabW laws_FnSync.tab22 laws_FnSync.bits22 (fun HT_ HW_ => ?_)
                generalize wr.drew = w171 at zL zM zK zN zO zP zab zeb zH zI zJ zS HB hHeld ⊢
                refine zA (i := 0) (N := some 117) (v := ?_) (a' := ?_) #[true, false, false, false, false, false, false, false, false, false, false, false] rfl rfl (zB HT_.out (by kernel_rfl)) (fun _ _ _ h => h) (Or.inl ⟨by rfl, ?_⟩) ?_ ?_
                rotate_left
                ·intro w'
                 go_simp
                 with_reducible rfl
                rotate_left
                ·simp only [Act.put, List.setIfInBounds_toArray, List.set_cons_zero, List.set_cons_succ, zp, zq]
                 rfl
                refine zA (i := 1) (N := some 118) (v := ?_) (a' := ?_) #[true, true, false, false, false, false, false, false, false, false, false, false] rfl rfl (zB HT_.out (by kernel_rfl)) (fun _ _ _ h => h) (Or.inl ⟨by rfl, ?_⟩) ?_ ?_
                rotate_left
                ·intro w'
                 go_simp
                 with_reducible rfl
                rotate_left
                ·simp only [Act.put, List.setIfInBounds_toArray, List.set_cons_zero, List.set_cons_succ, zp, zq]
                 rfl
                refine zA (i := 3) (N := some 120) (v := ?_) (a' := ?_) #[true, true, false, true, false, false, false, false, false, false, false, false] rfl rfl (zB HT_.out (by kernel_rfl)) (fun _ _ _ h => h) (Or.inl ⟨by rfl, ?_⟩) ?_ ?_
                rotate_left
                ·intro w'
                 go_simp
                 with_reducible rfl
                rotate_left
                ·simp only [Act.put, List.setIfInBounds_toArray, List.set_cons_zero, List.set_cons_succ, zp, zq]
                 rfl
                refine zA (i := 7) (N := some 124) (v := ?_) (a' := ?_) #[true, true, false, true, false, false, false, true, false, false, false, false] rfl rfl (zB HT_.out (by kernel_rfl)) (fun _ _ _ h => h) (Or.inl ⟨by rfl, ?_⟩) ?_ ?_
                rotate_left
                ·intro w'
                 go_simp
                 with_reducible rfl
                rotate_left
                ·simp only [Act.put, List.setIfInBounds_toArray, List.set_cons_zero, List.set_cons_succ, zp, zq]
                 rfl
                refine take_ (i := 2) (N := some 119) (v := ?_) (a' := ?_) #[true, true, true, true, false, false, false, true, false, false, false, false] rfl rfl (take_ofW HT_.out HW_.out (by kernel_rfl)) (fun _ _ _ h => h) (Or.inl ⟨by rfl, ?_⟩) hHeld ?_ ?_
                rotate_left
                ·rintro w' ⟨s0, s1, s2, s3⟩
                 go_simp
                 with_reducible rfl
                rotate_left
                ·simp only [Act.put, List.setIfInBounds_toArray, List.set_cons_zero, List.set_cons_succ, zp, zq]
                 rfl
                refine take_ (i := 6) (N := some 123) (v := ?_) (a' := ?_) #[true, true, true, true, false, false, true, true, false, false, false, false] rfl rfl (take_ofW HT_.out HW_.out (by kernel_rfl)) (fun _ _ _ h => h) (Or.inl ⟨by rfl, ?_⟩) hHeld ?_ ?_
                rotate_left
                ·rintro w' ⟨s0, s1, s2, s3⟩
                 go_simp
                 with_reducible rfl
                rotate_left
                ·simp only [Act.put, List.setIfInBounds_toArray, List.set_cons_zero, List.set_cons_succ, zp, zq]
                 rfl
                refine one_ (i := 4) (N := some 121) #[true, true, true, true, true, false, true, true, false, false, false, false] rfl rfl (one_of HT_.out (by kernel_rfl)) (by decide) (fun K hK => ?_)
                refine goes_ Try.func18 (by kernel_rfl) rfl #[.agg #[.slice Ao143 t439.length co143, .slice Ao145 t442.length co145], .int .i64 x12_3] (by rfl) rfl rfl (by (try simp only [List.map_toArray, List.map_cons, List.map_nil]); first | done | rfl) ?_
                with_reducible refine (impl_DiskRead.calls k4 _ _ t439 _ _ t442 x12_3 t447 _ ?side1 ?side2 ?side3 ?side4 A164.out).mono ?_
                (case side1 => repeat (first | exact (Kd.R_reads' zab.out).2.2 | (with_reducible refine Kd.C_alloc ?_ _) | (with_reducible refine Kd.C_drewN ?_ _) | (with_reducible refine Kd.C_drew ?_)))
                (case side2 => exact (Kd.R_reads' zab.out).2.1)
                (case side3 => repeat (first | exact (Kd.S_reads' zeb.out).2.2 | (with_reducible refine Kd.C_alloc ?_ _) | (with_reducible refine Kd.C_drewN ?_ _) | (with_reducible refine Kd.C_drew ?_)))
                (case side4 => exact (Kd.S_reads' zeb.out).2.1)
                rintro e w172 ⟨v448, rfl, zQ, hb⟩
                refine ⟨_, rfl, ?_⟩
                have n0_ := Aside0.mk (Kd.R_elder' (RL zL.out) (Kd.R_base zQ) hb)
                have n1_ := Aside0.mk (Kd.S_elder' (SL zM.out) (Kd.R_base zQ) hb)
                have n2_ := Aside0.mk (Kd.R_elder' (RL zK.out) (Kd.R_base zQ) hb)
                have n3_ := Aside0.mk (Kd.S_elder' (SL zN.out) (Kd.R_base zQ) hb)
                have n4_ := Aside0.mk (Kd.R_elder' (RL zO.out) (Kd.R_base zQ) hb)
                have n5_ := Aside0.mk (Kd.S_elder' (SL zP.out) (Kd.R_base zQ) hb)
                have n6_ := Aside0.mk (Kd.R_elder' (RL zab.out) (Kd.R_base zQ) hb)
                have n7_ := Aside0.mk (Kd.S_elder' (SL zeb.out) (Kd.R_base zQ) hb)
                have n8_ := Aside0.mk (Kd.R_lower (Kd.R_new' (Kd.R_new' (Kd.R_new' (Kd.R_new' zQ (Kd.R_lt (RL zL.out))) (Kd.R_lt (RL zK.out))) (Kd.R_lt (RL zO.out))) (Kd.R_lt (RL zab.out))) (zm (by repeat (first | (with_reducible first | exact HB.out | apply zf | apply ze | apply zi | refine zc ?_ zY.out | refine zc ?_ zbb.out | refine zc ?_ zgb.out | refine zc ?_ zob.out) | exact HB.out))))
                have n9_ := Aside0.mk (zl (g := zR) (o := .cells #[.slice Ao97 t395.length co97, .slice Ao99 t398.length co99] 35 (0, 0)) (BL zH.out) hb)
                have n10_ := Aside0.mk (zl (g := zU) (o := .cells #[.slice Ao92 t388.length co92, .slice Ao95 t391.length co95] 35 (0, 0)) (BL zI.out) hb)
                have n11_ := Aside0.mk (zl (g := zG) (o := .cells #[.slice Ao111 t423.length co111, .slice Ao115 t426.length co115] 35 (0, 0)) (BL zJ.out) hb)
                have n12_ := Aside0.mk (zl (g := zT) (o := .cells #[.slice Ao143 t439.length co143, .slice Ao145 t442.length co145] 35 (0, 0)) (BL zS.out) hb)
                have n13_ := Aside0.mk (zk (by repeat (first | (with_reducible first | exact HB.out | apply zf | apply ze | apply zi | refine zc ?_ zY.out | refine zc ?_ zbb.out | refine zc ?_ zgb.out | refine zc ?_ zob.out) | exact HB.out)) hb)
                clear zL
                clear zM
                clear zK
                clear zN
                clear zO
                clear zP
                clear zab
                clear zeb
                clear zH
                clear zI
                clear zJ
                clear zS
                clear HB
                have zL := n0_
                have zM := n1_
                have zK := n2_
                have zN := n3_
                have zO := n4_
                have zP := n5_
                have zab := n6_
                have zeb := n7_
                have zBb := n8_
                have zH := n9_
                have zI := n10_
                have zJ := n11_
                have zS := n12_
                have HB := n13_
                clear n0_ n1_ n2_ n3_ n4_ n5_ n6_ n7_ n8_ n9_ n10_ n11_ n12_ n13_
                (try clear hb)
                (try clear hb2)
                (try clear hk)
                (try clear hi)
                (try clear zQ)
                refine hK.out _ _ ⟨(zb zS.out 0).trans rfl, (zb zS.out 1).trans rfl, (zb zH.out 0).trans rfl, (zb zH.out 1).trans rfl⟩ (fun hHeld => ?_)
                clear hK K
                refine norm_ (a' := ?_) ?_ ?_
                rotate_left
                ·show Act.put _ (some 121) _ = _
                 simp only [Act.put, List.setIfInBounds_toArray, List.set_cons_zero, List.set_cons_succ, zp, zq]
                 rfl
                refine join_ (σ := Value) 2 #[true, true, true, true, true, true, true, true, true, true, false, false] (fun s_ => [(122, .string (strOfNums t447)), (125, s_), (126, .string (strOfNums t450))]) (fun s_ w' => (w'.cell? ⟨zT, 0, none⟩ = some (.slice Ao143 t439.length co143) ∧ w'.cell? ⟨zT, 1, none⟩ = some (.slice Ao145 t442.length co145) ∧ w'.cell? ⟨zR, 0, none⟩ = some (.slice Ao97 t395.length co97) ∧ w'.cell? ⟨zR, 1, none⟩ = some (.slice Ao99 t398.length co99)) ∧ (Kd.R (Kd.int .u8) 76 w' w.heap.size (fun k_ => some k_ ≠ (s_ : Value).ownBlock ∧ some k_ ≠ (.slice Ao97 t395.length co97 : Value).ownBlock ∧ some k_ ≠ (.slice Ao92 t388.length co92 : Value).ownBlock ∧ some k_ ≠ (.slice Ao111 t423.length co111 : Value).ownBlock ∧ some k_ ≠ (.slice Ao143 t439.length co143 : Value).ownBlock) v448 t447) ∧ (Kd.R (Kd.int .u8) 5 w' w.heap.size (fun k_ => some k_ ≠ (v448 : Value).ownBlock ∧ some k_ ≠ (.slice Ao97 t395.length co97 : Value).ownBlock ∧ some k_ ≠ (.slice Ao92 t388.length co92 : Value).ownBlock ∧ some k_ ≠ (.slice Ao111 t423.length co111 : Value).ownBlock ∧ some k_ ≠ (.slice Ao143 t439.length co143 : Value).ownBlock) s_ t450) ∧ (Kd.R (Kd.int .u8) 5 w' w.heap.size (fun k_ => some k_ ≠ (v448 : Value).ownBlock ∧ some k_ ≠ (s_ : Value).ownBlock ∧ some k_ ≠ (.slice Ao92 t388.length co92 : Value).ownBlock ∧ some k_ ≠ (.slice Ao111 t423.length co111 : Value).ownBlock ∧ some k_ ≠ (.slice Ao143 t439.length co143 : Value).ownBlock) (.slice Ao97 t395.length co97) t395) ∧ (Kd.S k45 45 w' w.heap.size (fun k_ => some k_ ≠ (v448 : Value).ownBlock ∧ some k_ ≠ (s_ : Value).ownBlock ∧ some k_ ≠ (.slice Ao97 t395.length co97 : Value).ownBlock ∧ some k_ ≠ (.slice Ao92 t388.length co92 : Value).ownBlock ∧ some k_ ≠ (.slice Ao95 t391.length co95 : Value).ownBlock ∧ some k_ ≠ (.slice Ao111 t423.length co111 : Value).ownBlock ∧ some k_ ≠ (.slice Ao115 t426.length co115 : Value).ownBlock ∧ some k_ ≠ (.slice Ao143 t439.length co143 : Value).ownBlock ∧ some k_ ≠ (.slice Ao145 t442.length co145 : Value).ownBlock) (.slice Ao99 t398.length co99) t398) ∧ (Kd.R (Kd.int .u8) 5 w' w.heap.size (fun k_ => some k_ ≠ (v448 : Value).ownBlock ∧ some k_ ≠ (s_ : Value).ownBlock ∧ some k_ ≠ (.slice Ao97 t395.length co97 : Value).ownBlock ∧ some k_ ≠ (.slice Ao111 t423.length co111 : Value).ownBlock ∧ some k_ ≠ (.slice Ao143 t439.length co143 : Value).ownBlock) (.slice Ao92 t388.length co92) t388) ∧ (Kd.S k45 45 w' w.heap.size (fun k_ => some k_ ≠ (v448 : Value).ownBlock ∧ some k_ ≠ (s_ : Value).ownBlock ∧ some k_ ≠ (.slice Ao97 t395.length co97 : Value).ownBlock ∧ some k_ ≠ (.slice Ao99 t398.length co99 : Value).ownBlock ∧ some k_ ≠ (.slice Ao92 t388.length co92 : Value).ownBlock ∧ some k_ ≠ (.slice Ao111 t423.length co111 : Value).ownBlock ∧ some k_ ≠ (.slice Ao115 t426.length co115 : Value).ownBlock ∧ some k_ ≠ (.slice Ao143 t439.length co143 : Value).ownBlock ∧ some k_ ≠ (.slice Ao145 t442.length co145 : Value).ownBlock) (.slice Ao95 t391.length co95) t391) ∧ (Kd.R (Kd.int .u8) 5 w' w.heap.size (fun k_ => some k_ ≠ (v448 : Value).ownBlock ∧ some k_ ≠ (s_ : Value).ownBlock ∧ some k_ ≠ (.slice Ao97 t395.length co97 : Value).ownBlock ∧ some k_ ≠ (.slice Ao92 t388.length co92 : Value).ownBlock ∧ some k_ ≠ (.slice Ao143 t439.length co143 : Value).ownBlock) (.slice Ao111 t423.length co111) t423) ∧ (Kd.S k45 45 w' w.heap.size (fun k_ => some k_ ≠ (v448 : Value).ownBlock ∧ some k_ ≠ (s_ : Value).ownBlock ∧ some k_ ≠ (.slice Ao97 t395.length co97 : Value).ownBlock ∧ some k_ ≠ (.slice Ao99 t398.length co99 : Value).ownBlock ∧ some k_ ≠ (.slice Ao92 t388.length co92 : Value).ownBlock ∧ some k_ ≠ (.slice Ao95 t391.length co95 : Value).ownBlock ∧ some k_ ≠ (.slice Ao111 t423.length co111 : Value).ownBlock ∧ some k_ ≠ (.slice Ao143 t439.length co143 : Value).ownBlock ∧ some k_ ≠ (.slice Ao145 t442.length co145 : Value).ownBlock) (.slice Ao115 t426.length co115) t426) ∧ (Kd.R (Kd.int .u8) 5 w' w.heap.size (fun k_ => some k_ ≠ (v448 : Value).ownBlock ∧ some k_ ≠ (s_ : Value).ownBlock ∧ some k_ ≠ (.slice Ao97 t395.length co97 : Value).ownBlock ∧ some k_ ≠ (.slice Ao92 t388.length co92 : Value).ownBlock ∧ some k_ ≠ (.slice Ao111 t423.length co111 : Value).ownBlock) (.slice Ao143 t439.length co143) t439) ∧ (Kd.S k45 45 w' w.heap.size (fun k_ => some k_ ≠ (v448 : Value).ownBlock ∧ some k_ ≠ (s_ : Value).ownBlock ∧ some k_ ≠ (.slice Ao97 t395.length co97 : Value).ownBlock ∧ some k_ ≠ (.slice Ao99 t398.length co99 : Value).ownBlock ∧ some k_ ≠ (.slice Ao92 t388.length co92 : Value).ownBlock ∧ some k_ ≠ (.slice Ao95 t391.length co95 : Value).ownBlock ∧ some k_ ≠ (.slice Ao111 t423.length co111 : Value).ownBlock ∧ some k_ ≠ (.slice Ao115 t426.length co115 : Value).ownBlock ∧ some k_ ≠ (.slice Ao143 t439.length co143 : Value).ownBlock) (.slice Ao145 t442.length co145) t442) ∧ (w'.heap[zR]? = some (.cells #[.slice Ao97 t395.length co97, .slice Ao99 t398.length co99] 35 (0, 0))) ∧ (w'.heap[zU]? = some (.cells #[.slice Ao92 t388.length co92, .slice Ao95 t391.length co95] 35 (0, 0))) ∧ (w'.heap[zG]? = some (.cells #[.slice Ao111 t423.length co111, .slice Ao115 t426.length co115] 35 (0, 0))) ∧ (w'.heap[zT]? = some (.cells #[.slice Ao143 t439.length co143, .slice Ao145 t442.length co145] 35 (0, 0))) ∧ (Below w.heap.size w w')) ?_ ?_
                rotate_left
                ·intro hCont
                 refine two_ (i := 5) (j := 8) (Ni := some 122) (Nj := some 125) #[true, true, true, true, true, true, true, true, false, false, false, false] #[true, true, true, true, true, false, true, true, true, false, false, false] rfl rfl rfl rfl (two_of HT_.out (by kernel_rfl)) (by decide) (by decide) (fun K hK => ?_) (fun K hK => ?_)
                 ·skip
                  have hcv173 := own_string (P := Try.prog) Try.underlying22 Try.underlying5 Try.underlying9 (Kd.own_of_R zBb.out)
                  refine value_ (w1 := ?_) (v := ?_) (by rfl) rfl ?_ ?_
                  rotate_left 2
                  ·go_simp
                   constructor
                   ·rfl
                   ·rfl
                  clear hcv173
                  refine hK.out _ _ ⟨(zb zS.out 0).trans rfl, (zb zS.out 1).trans rfl, (zb zH.out 0).trans rfl, (zb zH.out 1).trans rfl⟩ (fun hHeld => ?_)
                  clear hK K
                  refine norm_ (a' := ?_) ?_ ?_
                  rotate_left
                  ·show Act.put _ (some 122) _ = _
                   simp only [Act.put, List.setIfInBounds_toArray, List.set_cons_zero, List.set_cons_succ, zp, zq]
                   rfl
                  refine one_ (i := 8) (N := some 125) #[true, true, true, true, true, true, true, true, true, false, false, false] rfl rfl (one_of HT_.out (by kernel_rfl)) (by decide) (fun K hK => ?_)
                  refine goes_ Try.func22 (by kernel_rfl) rfl #[.agg #[.slice Ao97 t395.length co97, .slice Ao99 t398.length co99], .int .i64 x12_3] (by rfl) rfl rfl (by (try simp only [List.map_toArray, List.map_cons, List.map_nil]); first | done | rfl) ?_
                  with_reducible refine (spec_DiskRead.calls k4 _ _ t395 _ _ t398 x12_3 t450 _ ?side1 ?side2 ?side3 ?side4 A165.out).mono ?_
                  (case side1 => repeat (first | exact (Kd.R_reads' zL.out).2.2 | (with_reducible refine Kd.C_alloc ?_ _) | (with_reducible refine Kd.C_drewN ?_ _) | (with_reducible refine Kd.C_drew ?_)))
                  (case side2 => exact (Kd.R_reads' zL.out).2.1)
                  (case side3 => repeat (first | exact (Kd.S_reads' zM.out).2.2 | (with_reducible refine Kd.C_alloc ?_ _) | (with_reducible refine Kd.C_drewN ?_ _) | (with_reducible refine Kd.C_drew ?_)))
                  (case side4 => exact (Kd.S_reads' zM.out).2.1)
                  rintro e w174 ⟨v451, rfl, zQ, hb⟩
                  refine ⟨_, rfl, ?_⟩
                  have n0_ := Aside0.mk (Kd.R_elder' (RL zL.out) (Kd.R_base zQ) hb)
                  have n1_ := Aside0.mk (Kd.S_elder' (SL zM.out) (Kd.R_base zQ) hb)
                  have n2_ := Aside0.mk (Kd.R_elder' (RL zK.out) (Kd.R_base zQ) hb)
                  have n3_ := Aside0.mk (Kd.S_elder' (SL zN.out) (Kd.R_base zQ) hb)
                  have n4_ := Aside0.mk (Kd.R_elder' (RL zO.out) (Kd.R_base zQ) hb)
                  have n5_ := Aside0.mk (Kd.S_elder' (SL zP.out) (Kd.R_base zQ) hb)
                  have n6_ := Aside0.mk (Kd.R_elder' (RL zab.out) (Kd.R_base zQ) hb)
                  have n7_ := Aside0.mk (Kd.S_elder' (SL zeb.out) (Kd.R_base zQ) hb)
                  have n8_ := Aside0.mk (Kd.R_elder' (RL zBb.out) (Kd.R_base zQ) hb)
                  have n9_ := Aside0.mk (Kd.R_lower (Kd.R_new' (Kd.R_new' (Kd.R_new' (Kd.R_new' (Kd.R_new' zQ (Kd.R_lt (RL zL.out))) (Kd.R_lt (RL zK.out))) (Kd.R_lt (RL zO.out))) (Kd.R_lt (RL zab.out))) (Kd.R_lt (RL zBb.out))) (zm (by repeat (first | (with_reducible first | exact HB.out | apply zf | apply ze | apply zi | refine zc ?_ zY.out | refine zc ?_ zbb.out | refine zc ?_ zgb.out | refine zc ?_ zob.out) | exact HB.out))))
                  have n10_ := Aside0.mk (zl (g := zR) (o := .cells #[.slice Ao97 t395.length co97, .slice Ao99 t398.length co99] 35 (0, 0)) (BL zH.out) hb)
                  have n11_ := Aside0.mk (zl (g := zU) (o := .cells #[.slice Ao92 t388.length co92, .slice Ao95 t391.length co95] 35 (0, 0)) (BL zI.out) hb)
                  have n12_ := Aside0.mk (zl (g := zG) (o := .cells #[.slice Ao111 t423.length co111, .slice Ao115 t426.length co115] 35 (0, 0)) (BL zJ.out) hb)
                  have n13_ := Aside0.mk (zl (g := zT) (o := .cells #[.slice Ao143 t439.length co143, .slice Ao145 t442.length co145] 35 (0, 0)) (BL zS.out) hb)
                  have n14_ := Aside0.mk (zk (by repeat (first | (with_reducible first | exact HB.out | apply zf | apply ze | apply zi | refine zc ?_ zY.out | refine zc ?_ zbb.out | refine zc ?_ zgb.out | refine zc ?_ zob.out) | exact HB.out)) hb)
                  clear zL
                  clear zM
                  clear zK
                  clear zN
                  clear zO
                  clear zP
                  clear zab
                  clear zeb
                  clear zBb
                  clear zH
                  clear zI
                  clear zJ
                  clear zS
                  clear HB
                  have zL := n0_
                  have zM := n1_
                  have zK := n2_
                  have zN := n3_
                  have zO := n4_
                  have zP := n5_
                  have zab := n6_
                  have zeb := n7_
                  have zBb := n8_
                  have zGb := n9_
                  have zH := n10_
                  have zI := n11_
                  have zJ := n12_
                  have zS := n13_
                  have HB := n14_
                  clear n0_ n1_ n2_ n3_ n4_ n5_ n6_ n7_ n8_ n9_ n10_ n11_ n12_ n13_ n14_
                  (try clear hb)
                  (try clear hb2)
                  (try clear hk)
                  (try clear hi)
                  (try clear zQ)
                  refine hK.out _ _ ⟨(zb zS.out 0).trans rfl, (zb zS.out 1).trans rfl, (zb zH.out 0).trans rfl, (zb zH.out 1).trans rfl⟩ (fun hHeld => ?_)
                  clear hK K
                  refine norm_ (a' := ?_) ?_ ?_
                  rotate_left
                  ·show Act.put _ (some 125) _ = _
                   simp only [Act.put, List.setIfInBounds_toArray, List.set_cons_zero, List.set_cons_succ, zp, zq]
                   rfl
                  refine one_ (i := 9) (N := some 126) #[true, true, true, true, true, true, true, true, true, true, false, false] rfl rfl (one_of HT_.out (by kernel_rfl)) (by decide) (fun K hK => ?_)
                  have hcv175 := own_string (P := Try.prog) Try.underlying22 Try.underlying5 Try.underlying9 (Kd.own_of_R zGb.out)
                  refine value_ (w1 := ?_) (v := ?_) (by rfl) rfl ?_ ?_
                  rotate_left 2
                  ·go_simp
                   constructor
                   ·rfl
                   ·rfl
                  clear hcv175
                  refine hK.out _ _ ⟨(zb zS.out 0).trans rfl, (zb zS.out 1).trans rfl, (zb zH.out 0).trans rfl, (zb zH.out 1).trans rfl⟩ (fun hHeld => ?_)
                  clear hK K
                  refine norm_ (a' := ?_) ?_ ?_
                  rotate_left
                  ·show Act.put _ (some 126) _ = _
                   simp only [Act.put, List.setIfInBounds_toArray, List.set_cons_zero, List.set_cons_succ, zp, zq]
                   rfl
                  exact norm_ (by simp only [putAll, Act.put, List.setIfInBounds_toArray, List.set_cons_zero, List.set_cons_succ]) (hCont (v451) _ ⟨hHeld, (by exact RL (Kd.R_mono zBb.out (fun _ hk => ⟨hk.2, ⟨hk.1.1.1.1.2, ⟨hk.1.1.1.2, ⟨hk.1.1.2, hk.1.2⟩⟩⟩⟩))), (by exact RL (Kd.R_mono zGb.out (fun _ hk => ⟨hk.2, ⟨hk.1.1.1.1.2, ⟨hk.1.1.1.2, ⟨hk.1.1.2, hk.1.2⟩⟩⟩⟩))), (by exact RL (Kd.R_mono zL.out (fun _ hk => ⟨hk.1.2, ⟨hk.2, ⟨hk.1.1.1, ⟨hk.1.1.2.1, hk.1.1.2.2⟩⟩⟩⟩))), (by exact SL (Kd.S_mono zM.out (fun _ hk => ⟨hk.1.2, ⟨hk.2, ⟨hk.1.1.1, ⟨hk.1.1.2.1, ⟨hk.1.1.2.2.1, ⟨hk.1.1.2.2.2.1, ⟨hk.1.1.2.2.2.2.1, ⟨hk.1.1.2.2.2.2.2.1, hk.1.1.2.2.2.2.2.2⟩⟩⟩⟩⟩⟩⟩⟩))), (by exact RL (Kd.R_mono zK.out (fun _ hk => ⟨hk.1.2, ⟨hk.2, ⟨hk.1.1.1, ⟨hk.1.1.2.1, hk.1.1.2.2⟩⟩⟩⟩))), (by exact SL (Kd.S_mono zN.out (fun _ hk => ⟨hk.1.2, ⟨hk.2, ⟨hk.1.1.1, ⟨hk.1.1.2.1, ⟨hk.1.1.2.2.1, ⟨hk.1.1.2.2.2.1, ⟨hk.1.1.2.2.2.2.1, ⟨hk.1.1.2.2.2.2.2.1, hk.1.1.2.2.2.2.2.2⟩⟩⟩⟩⟩⟩⟩⟩))), (by exact RL (Kd.R_mono zO.out (fun _ hk => ⟨hk.1.2, ⟨hk.2, ⟨hk.1.1.1, ⟨hk.1.1.2.1, hk.1.1.2.2⟩⟩⟩⟩))), (by exact SL (Kd.S_mono zP.out (fun _ hk => ⟨hk.1.2, ⟨hk.2, ⟨hk.1.1.1, ⟨hk.1.1.2.1, ⟨hk.1.1.2.2.1, ⟨hk.1.1.2.2.2.1, ⟨hk.1.1.2.2.2.2.1, ⟨hk.1.1.2.2.2.2.2.1, hk.1.1.2.2.2.2.2.2⟩⟩⟩⟩⟩⟩⟩⟩))), (by exact RL (Kd.R_mono zab.out (fun _ hk => ⟨hk.1.2, ⟨hk.2, ⟨hk.1.1.1, ⟨hk.1.1.2.1, hk.1.1.2.2⟩⟩⟩⟩))), (by exact SL (Kd.S_mono zeb.out (fun _ hk => ⟨hk.1.2, ⟨hk.2, ⟨hk.1.1.1, ⟨hk.1.1.2.1, ⟨hk.1.1.2.2.1, ⟨hk.1.1.2.2.2.1, ⟨hk.1.1.2.2.2.2.1, ⟨hk.1.1.2.2.2.2.2.1, hk.1.1.2.2.2.2.2.2⟩⟩⟩⟩⟩⟩⟩⟩))), (by exact BL zH.out), (by exact BL zI.out), (by exact BL zJ.out), (by exact BL zS.out), (by repeat (first | (with_reducible first | exact HB.out | apply zf | apply ze | apply zi | refine zc ?_ zY.out | refine zc ?_ zbb.out | refine zc ?_ zgb.out | refine zc ?_ zob.out) | exact HB.out))⟩)
                 ·skip
                  refine goes_ Try.func22 (by kernel_rfl) rfl #[.agg #[.slice Ao97 t395.length co97, .slice Ao99 t398.length co99], .int .i64 x12_3] (by rfl) rfl rfl (by (try simp only [List.map_toArray, List.map_cons, List.map_nil]); first | done | rfl) ?_
                  with_reducible refine (spec_DiskRead.calls k4 _ _ t395 _ _ t398 x12_3 t450 _ ?side1 ?side2 ?side3 ?side4 A165.out).mono ?_
                  (case side1 => repeat (first | exact (Kd.R_reads' zL.out).2.2 | (with_reducible refine Kd.C_alloc ?_ _) | (with_reducible refine Kd.C_drewN ?_ _) | (with_reducible refine Kd.C_drew ?_)))
                  (case side2 => exact (Kd.R_reads' zL.out).2.1)
                  (case side3 => repeat (first | exact (Kd.S_reads' zM.out).2.2 | (with_reducible refine Kd.C_alloc ?_ _) | (with_reducible refine Kd.C_drewN ?_ _) | (with_reducible refine Kd.C_drew ?_)))
                  (case side4 => exact (Kd.S_reads' zM.out).2.1)
                  rintro e w173 ⟨v451, rfl, zQ, hb⟩
                  refine ⟨_, rfl, ?_⟩
                  have n0_ := Aside0.mk (Kd.R_elder' (RL zL.out) (Kd.R_base zQ) hb)
                  have n1_ := Aside0.mk (Kd.S_elder' (SL zM.out) (Kd.R_base zQ) hb)
                  have n2_ := Aside0.mk (Kd.R_elder' (RL zK.out) (Kd.R_base zQ) hb)
                  have n3_ := Aside0.mk (Kd.S_elder' (SL zN.out) (Kd.R_base zQ) hb)
                  have n4_ := Aside0.mk (Kd.R_elder' (RL zO.out) (Kd.R_base zQ) hb)
                  have n5_ := Aside0.mk (Kd.S_elder' (SL zP.out) (Kd.R_base zQ) hb)
                  have n6_ := Aside0.mk (Kd.R_elder' (RL zab.out) (Kd.R_base zQ) hb)
                  have n7_ := Aside0.mk (Kd.S_elder' (SL zeb.out) (Kd.R_base zQ) hb)
                  have n8_ := Aside0.mk (Kd.R_elder' (RL zBb.out) (Kd.R_base zQ) hb)
                  have n9_ := Aside0.mk (Kd.R_lower (Kd.R_new' (Kd.R_new' (Kd.R_new' (Kd.R_new' (Kd.R_new' zQ (Kd.R_lt (RL zL.out))) (Kd.R_lt (RL zK.out))) (Kd.R_lt (RL zO.out))) (Kd.R_lt (RL zab.out))) (Kd.R_lt (RL zBb.out))) (zm (by repeat (first | (with_reducible first | exact HB.out | apply zf | apply ze | apply zi | refine zc ?_ zY.out | refine zc ?_ zbb.out | refine zc ?_ zgb.out | refine zc ?_ zob.out) | exact HB.out))))
                  have n10_ := Aside0.mk (zl (g := zR) (o := .cells #[.slice Ao97 t395.length co97, .slice Ao99 t398.length co99] 35 (0, 0)) (BL zH.out) hb)
                  have n11_ := Aside0.mk (zl (g := zU) (o := .cells #[.slice Ao92 t388.length co92, .slice Ao95 t391.length co95] 35 (0, 0)) (BL zI.out) hb)
                  have n12_ := Aside0.mk (zl (g := zG) (o := .cells #[.slice Ao111 t423.length co111, .slice Ao115 t426.length co115] 35 (0, 0)) (BL zJ.out) hb)
                  have n13_ := Aside0.mk (zl (g := zT) (o := .cells #[.slice Ao143 t439.length co143, .slice Ao145 t442.length co145] 35 (0, 0)) (BL zS.out) hb)
                  have n14_ := Aside0.mk (zk (by repeat (first | (with_reducible first | exact HB.out | apply zf | apply ze | apply zi | refine zc ?_ zY.out | refine zc ?_ zbb.out | refine zc ?_ zgb.out | refine zc ?_ zob.out) | exact HB.out)) hb)
                  clear zL
                  clear zM
                  clear zK
                  clear zN
                  clear zO
                  clear zP
                  clear zab
                  clear zeb
                  clear zBb
                  clear zH
                  clear zI
                  clear zJ
                  clear zS
                  clear HB
                  have zL := n0_
                  have zM := n1_
                  have zK := n2_
                  have zN := n3_
                  have zO := n4_
                  have zP := n5_
                  have zab := n6_
                  have zeb := n7_
                  have zBb := n8_
                  have zGb := n9_
                  have zH := n10_
                  have zI := n11_
                  have zJ := n12_
                  have zS := n13_
                  have HB := n14_
                  clear n0_ n1_ n2_ n3_ n4_ n5_ n6_ n7_ n8_ n9_ n10_ n11_ n12_ n13_ n14_
                  (try clear hb)
                  (try clear hb2)
                  (try clear hk)
                  (try clear hi)
                  (try clear zQ)
                  refine hK.out _ _ ⟨(zb zS.out 0).trans rfl, (zb zS.out 1).trans rfl, (zb zH.out 0).trans rfl, (zb zH.out 1).trans rfl⟩ (fun hHeld => ?_)
                  clear hK K
                  refine norm_ (a' := ?_) ?_ ?_
                  rotate_left
                  ·show Act.put _ (some 125) _ = _
                   simp only [Act.put, List.setIfInBounds_toArray, List.set_cons_zero, List.set_cons_succ, zp, zq]
                   rfl
                  refine two_ (i := 5) (j := 9) (Ni := some 122) (Nj := some 126) #[true, true, true, true, true, true, true, true, true, false, false, false] #[true, true, true, true, true, false, true, true, true, true, false, false] rfl rfl rfl rfl (two_of HT_.out (by kernel_rfl)) (by decide) (by decide) (fun K hK => ?_) (fun K hK => ?_)
                  ·skip
                   have hcv174 := own_string (P := Try.prog) Try.underlying22 Try.underlying5 Try.underlying9 (Kd.own_of_R zBb.out)
                   refine value_ (w1 := ?_) (v := ?_) (by rfl) rfl ?_ ?_
                   rotate_left 2
                   ·go_simp
                    constructor
                    ·rfl
                    ·rfl
                   clear hcv174
                   refine hK.out _ _ ⟨(zb zS.out 0).trans rfl, (zb zS.out 1).trans rfl, (zb zH.out 0).trans rfl, (zb zH.out 1).trans rfl⟩ (fun hHeld => ?_)
                   clear hK K
                   refine norm_ (a' := ?_) ?_ ?_
                   rotate_left
                   ·show Act.put _ (some 122) _ = _
                    simp only [Act.put, List.setIfInBounds_toArray, List.set_cons_zero, List.set_cons_succ, zp, zq]
                    rfl
                   refine one_ (i := 9) (N := some 126) #[true, true, true, true, true, true, true, true, true, true, false, false] rfl rfl (one_of HT_.out (by kernel_rfl)) (by decide) (fun K hK => ?_)
                   have hcv175 := own_string (P := Try.prog) Try.underlying22 Try.underlying5 Try.underlying9 (Kd.own_of_R zGb.out)
                   refine value_ (w1 := ?_) (v := ?_) (by rfl) rfl ?_ ?_
                   rotate_left 2
                   ·go_simp
                    constructor
                    ·rfl
                    ·rfl
                   clear hcv175
                   refine hK.out _ _ ⟨(zb zS.out 0).trans rfl, (zb zS.out 1).trans rfl, (zb zH.out 0).trans rfl, (zb zH.out 1).trans rfl⟩ (fun hHeld => ?_)
                   clear hK K
                   refine norm_ (a' := ?_) ?_ ?_
                   rotate_left
                   ·show Act.put _ (some 126) _ = _
                    simp only [Act.put, List.setIfInBounds_toArray, List.set_cons_zero, List.set_cons_succ, zp, zq]
                    rfl
                   exact norm_ (by simp only [putAll, Act.put, List.setIfInBounds_toArray, List.set_cons_zero, List.set_cons_succ]) (hCont (v451) _ ⟨hHeld, (by exact RL (Kd.R_mono zBb.out (fun _ hk => ⟨hk.2, ⟨hk.1.1.1.1.2, ⟨hk.1.1.1.2, ⟨hk.1.1.2, hk.1.2⟩⟩⟩⟩))), (by exact RL (Kd.R_mono zGb.out (fun _ hk => ⟨hk.2, ⟨hk.1.1.1.1.2, ⟨hk.1.1.1.2, ⟨hk.1.1.2, hk.1.2⟩⟩⟩⟩))), (by exact RL (Kd.R_mono zL.out (fun _ hk => ⟨hk.1.2, ⟨hk.2, ⟨hk.1.1.1, ⟨hk.1.1.2.1, hk.1.1.2.2⟩⟩⟩⟩))), (by exact SL (Kd.S_mono zM.out (fun _ hk => ⟨hk.1.2, ⟨hk.2, ⟨hk.1.1.1, ⟨hk.1.1.2.1, ⟨hk.1.1.2.2.1, ⟨hk.1.1.2.2.2.1, ⟨hk.1.1.2.2.2.2.1, ⟨hk.1.1.2.2.2.2.2.1, hk.1.1.2.2.2.2.2.2⟩⟩⟩⟩⟩⟩⟩⟩))), (by exact RL (Kd.R_mono zK.out (fun _ hk => ⟨hk.1.2, ⟨hk.2, ⟨hk.1.1.1, ⟨hk.1.1.2.1, hk.1.1.2.2⟩⟩⟩⟩))), (by exact SL (Kd.S_mono zN.out (fun _ hk => ⟨hk.1.2, ⟨hk.2, ⟨hk.1.1.1, ⟨hk.1.1.2.1, ⟨hk.1.1.2.2.1, ⟨hk.1.1.2.2.2.1, ⟨hk.1.1.2.2.2.2.1, ⟨hk.1.1.2.2.2.2.2.1, hk.1.1.2.2.2.2.2.2⟩⟩⟩⟩⟩⟩⟩⟩))), (by exact RL (Kd.R_mono zO.out (fun _ hk => ⟨hk.1.2, ⟨hk.2, ⟨hk.1.1.1, ⟨hk.1.1.2.1, hk.1.1.2.2⟩⟩⟩⟩))), (by exact SL (Kd.S_mono zP.out (fun _ hk => ⟨hk.1.2, ⟨hk.2, ⟨hk.1.1.1, ⟨hk.1.1.2.1, ⟨hk.1.1.2.2.1, ⟨hk.1.1.2.2.2.1, ⟨hk.1.1.2.2.2.2.1, ⟨hk.1.1.2.2.2.2.2.1, hk.1.1.2.2.2.2.2.2⟩⟩⟩⟩⟩⟩⟩⟩))), (by exact RL (Kd.R_mono zab.out (fun _ hk => ⟨hk.1.2, ⟨hk.2, ⟨hk.1.1.1, ⟨hk.1.1.2.1, hk.1.1.2.2⟩⟩⟩⟩))), (by exact SL (Kd.S_mono zeb.out (fun _ hk => ⟨hk.1.2, ⟨hk.2, ⟨hk.1.1.1, ⟨hk.1.1.2.1, ⟨hk.1.1.2.2.1, ⟨hk.1.1.2.2.2.1, ⟨hk.1.1.2.2.2.2.1, ⟨hk.1.1.2.2.2.2.2.1, hk.1.1.2.2.2.2.2.2⟩⟩⟩⟩⟩⟩⟩⟩))), (by exact BL zH.out), (by exact BL zI.out), (by exact BL zJ.out), (by exact BL zS.out), (by repeat (first | (with_reducible first | exact HB.out | apply zf | apply ze | apply zi | refine zc ?_ zY.out | refine zc ?_ zbb.out | refine zc ?_ zgb.out | refine zc ?_ zob.out) | exact HB.out))⟩)
                  ·skip
                   have hcv174 := own_string (P := Try.prog) Try.underlying22 Try.underlying5 Try.underlying9 (Kd.own_of_R zGb.out)
                   refine value_ (w1 := ?_) (v := ?_) (by rfl) rfl ?_ ?_
                   rotate_left 2
                   ·go_simp
                    constructor
                    ·rfl
                    ·rfl
                   clear hcv174
                   refine hK.out _ _ ⟨(zb zS.out 0).trans rfl, (zb zS.out 1).trans rfl, (zb zH.out 0).trans rfl, (zb zH.out 1).trans rfl⟩ (fun hHeld => ?_)
                   clear hK K
                   refine norm_ (a' := ?_) ?_ ?_
                   rotate_left
                   ·show Act.put _ (some 126) _ = _
                    simp only [Act.put, List.setIfInBounds_toArray, List.set_cons_zero, List.set_cons_succ, zp, zq]
                    rfl
                   refine one_ (i := 5) (N := some 122) #[true, true, true, true, true, true, true, true, true, true, false, false] rfl rfl (one_of HT_.out (by kernel_rfl)) (by decide) (fun K hK => ?_)
                   have hcv175 := own_string (P := Try.prog) Try.underlying22 Try.underlying5 Try.underlying9 (Kd.own_of_R zBb.out)
                   refine value_ (w1 := ?_) (v := ?_) (by rfl) rfl ?_ ?_
                   rotate_left 2
                   ·go_simp
                    constructor
                    ·rfl
                    ·rfl
                   clear hcv175
                   refine hK.out _ _ ⟨(zb zS.out 0).trans rfl, (zb zS.out 1).trans rfl, (zb zH.out 0).trans rfl, (zb zH.out 1).trans rfl⟩ (fun hHeld => ?_)
                   clear hK K
                   refine norm_ (a' := ?_) ?_ ?_
                   rotate_left
                   ·show Act.put _ (some 122) _ = _
                    simp only [Act.put, List.setIfInBounds_toArray, List.set_cons_zero, List.set_cons_succ, zp, zq]
                    rfl
                   exact norm_ (by simp only [putAll, Act.put, List.setIfInBounds_toArray, List.set_cons_zero, List.set_cons_succ]) (hCont (v451) _ ⟨hHeld, (by exact RL (Kd.R_mono zBb.out (fun _ hk => ⟨hk.2, ⟨hk.1.1.1.1.2, ⟨hk.1.1.1.2, ⟨hk.1.1.2, hk.1.2⟩⟩⟩⟩))), (by exact RL (Kd.R_mono zGb.out (fun _ hk => ⟨hk.2, ⟨hk.1.1.1.1.2, ⟨hk.1.1.1.2, ⟨hk.1.1.2, hk.1.2⟩⟩⟩⟩))), (by exact RL (Kd.R_mono zL.out (fun _ hk => ⟨hk.1.2, ⟨hk.2, ⟨hk.1.1.1, ⟨hk.1.1.2.1, hk.1.1.2.2⟩⟩⟩⟩))), (by exact SL (Kd.S_mono zM.out (fun _ hk => ⟨hk.1.2, ⟨hk.2, ⟨hk.1.1.1, ⟨hk.1.1.2.1, ⟨hk.1.1.2.2.1, ⟨hk.1.1.2.2.2.1, ⟨hk.1.1.2.2.2.2.1, ⟨hk.1.1.2.2.2.2.2.1, hk.1.1.2.2.2.2.2.2⟩⟩⟩⟩⟩⟩⟩⟩))), (by exact RL (Kd.R_mono zK.out (fun _ hk => ⟨hk.1.2, ⟨hk.2, ⟨hk.1.1.1, ⟨hk.1.1.2.1, hk.1.1.2.2⟩⟩⟩⟩))), (by exact SL (Kd.S_mono zN.out (fun _ hk => ⟨hk.1.2, ⟨hk.2, ⟨hk.1.1.1, ⟨hk.1.1.2.1, ⟨hk.1.1.2.2.1, ⟨hk.1.1.2.2.2.1, ⟨hk.1.1.2.2.2.2.1, ⟨hk.1.1.2.2.2.2.2.1, hk.1.1.2.2.2.2.2.2⟩⟩⟩⟩⟩⟩⟩⟩))), (by exact RL (Kd.R_mono zO.out (fun _ hk => ⟨hk.1.2, ⟨hk.2, ⟨hk.1.1.1, ⟨hk.1.1.2.1, hk.1.1.2.2⟩⟩⟩⟩))), (by exact SL (Kd.S_mono zP.out (fun _ hk => ⟨hk.1.2, ⟨hk.2, ⟨hk.1.1.1, ⟨hk.1.1.2.1, ⟨hk.1.1.2.2.1, ⟨hk.1.1.2.2.2.1, ⟨hk.1.1.2.2.2.2.1, ⟨hk.1.1.2.2.2.2.2.1, hk.1.1.2.2.2.2.2.2⟩⟩⟩⟩⟩⟩⟩⟩))), (by exact RL (Kd.R_mono zab.out (fun _ hk => ⟨hk.1.2, ⟨hk.2, ⟨hk.1.1.1, ⟨hk.1.1.2.1, hk.1.1.2.2⟩⟩⟩⟩))), (by exact SL (Kd.S_mono zeb.out (fun _ hk => ⟨hk.1.2, ⟨hk.2, ⟨hk.1.1.1, ⟨hk.1.1.2.1, ⟨hk.1.1.2.2.1, ⟨hk.1.1.2.2.2.1, ⟨hk.1.1.2.2.2.2.1, ⟨hk.1.1.2.2.2.2.2.1, hk.1.1.2.2.2.2.2.2⟩⟩⟩⟩⟩⟩⟩⟩))), (by exact BL zH.out), (by exact BL zI.out), (by exact BL zJ.out), (by exact BL zS.out), (by repeat (first | (with_reducible first | exact HB.out | apply zf | apply ze | apply zi | refine zc ?_ zY.out | refine zc ?_ zbb.out | refine zc ?_ zgb.out | refine zc ?_ zob.out) | exact HB.out))⟩)
                rintro v451 w176 ⟨hS_, h0_, h1_, h2_, h3_, h4_, h5_, h6_, h7_, h8_, h9_, h10_, h11_, h12_, h13_, h14_⟩
                have n0_ : Aside0 (Kd.R (Kd.int .u8) 76 w176 w.heap.size (fun k_ => some k_ ≠ (v451 : Value).ownBlock ∧ some k_ ≠ (.slice Ao97 t395.length co97 : Value).ownBlock ∧ some k_ ≠ (.slice Ao92 t388.length co92 : Value).ownBlock ∧ some k_ ≠ (.slice Ao111 t423.length co111 : Value).ownBlock ∧ some k_ ≠ (.slice Ao143 t439.length co143 : Value).ownBlock) v448 t447) := ⟨h0_⟩
                have n1_ : Aside0 (Kd.R (Kd.int .u8) 5 w176 w.heap.size (fun k_ => some k_ ≠ (v448 : Value).ownBlock ∧ some k_ ≠ (.slice Ao97 t395.length co97 : Value).ownBlock ∧ some k_ ≠ (.slice Ao92 t388.length co92 : Value).ownBlock ∧ some k_ ≠ (.slice Ao111 t423.length co111 : Value).ownBlock ∧ some k_ ≠ (.slice Ao143 t439.length co143 : Value).ownBlock) v451 t450) := ⟨h1_⟩
                have n2_ : Aside0 (Kd.R (Kd.int .u8) 5 w176 w.heap.size (fun k_ => some k_ ≠ (v448 : Value).ownBlock ∧ some k_ ≠ (v451 : Value).ownBlock ∧ some k_ ≠ (.slice Ao92 t388.length co92 : Value).ownBlock ∧ some k_ ≠ (.slice Ao111 t423.length co111 : Value).ownBlock ∧ some k_ ≠ (.slice Ao143 t439.length co143 : Value).ownBlock) (.slice Ao97 t395.length co97) t395) := ⟨h2_⟩
                have n3_ : Aside0 (Kd.S k45 45 w176 w.heap.size (fun k_ => some k_ ≠ (v448 : Value).ownBlock ∧ some k_ ≠ (v451 : Value).ownBlock ∧ some k_ ≠ (.slice Ao97 t395.length co97 : Value).ownBlock ∧ some k_ ≠ (.slice Ao92 t388.length co92 : Value).ownBlock ∧ some k_ ≠ (.slice Ao95 t391.length co95 : Value).ownBlock ∧ some k_ ≠ (.slice Ao111 t423.length co111 : Value).ownBlock ∧ some k_ ≠ (.slice Ao115 t426.length co115 : Value).ownBlock ∧ some k_ ≠ (.slice Ao143 t439.length co143 : Value).ownBlock ∧ some k_ ≠ (.slice Ao145 t442.length co145 : Value).ownBlock) (.slice Ao99 t398.length co99) t398) := ⟨h3_⟩
                have n4_ : Aside0 (Kd.R (Kd.int .u8) 5 w176 w.heap.size (fun k_ => some k_ ≠ (v448 : Value).ownBlock ∧ some k_ ≠ (v451 : Value).ownBlock ∧ some k_ ≠ (.slice Ao97 t395.length co97 : Value).ownBlock ∧ some k_ ≠ (.slice Ao111 t423.length co111 : Value).ownBlock ∧ some k_ ≠ (.slice Ao143 t439.length co143 : Value).ownBlock) (.slice Ao92 t388.length co92) t388) := ⟨h4_⟩
                have n5_ : Aside0 (Kd.S k45 45 w176 w.heap.size (fun k_ => some k_ ≠ (v448 : Value).ownBlock ∧ some k_ ≠ (v451 : Value).ownBlock ∧ some k_ ≠ (.slice Ao97 t395.length co97 : Value).ownBlock ∧ some k_ ≠ (.slice Ao99 t398.length co99 : Value).ownBlock ∧ some k_ ≠ (.slice Ao92 t388.length co92 : Value).ownBlock ∧ some k_ ≠ (.slice Ao111 t423.length co111 : Value).ownBlock ∧ some k_ ≠ (.slice Ao115 t426.length co115 : Value).ownBlock ∧ some k_ ≠ (.slice Ao143 t439.length co143 : Value).ownBlock ∧ some k_ ≠ (.slice Ao145 t442.length co145 : Value).ownBlock) (.slice Ao95 t391.length co95) t391) := ⟨h5_⟩
                have n6_ : Aside0 (Kd.R (Kd.int .u8) 5 w176 w.heap.size (fun k_ => some k_ ≠ (v448 : Value).ownBlock ∧ some k_ ≠ (v451 : Value).ownBlock ∧ some k_ ≠ (.slice Ao97 t395.length co97 : Value).ownBlock ∧ some k_ ≠ (.slice Ao92 t388.length co92 : Value).ownBlock ∧ some k_ ≠ (.slice Ao143 t439.length co143 : Value).ownBlock) (.slice Ao111 t423.length co111) t423) := ⟨h6_⟩
                have n7_ : Aside0 (Kd.S k45 45 w176 w.heap.size (fun k_ => some k_ ≠ (v448 : Value).ownBlock ∧ some k_ ≠ (v451 : Value).ownBlock ∧ some k_ ≠ (.slice Ao97 t395.length co97 : Value).ownBlock ∧ some k_ ≠ (.slice Ao99 t398.length co99 : Value).ownBlock ∧ some k_ ≠ (.slice Ao92 t388.length co92 : Value).ownBlock ∧ some k_ ≠ (.slice Ao95 t391.length co95 : Value).ownBlock ∧ some k_ ≠ (.slice Ao111 t423.length co111 : Value).ownBlock ∧ some k_ ≠ (.slice Ao143 t439.length co143 : Value).ownBlock ∧ some k_ ≠ (.slice Ao145 t442.length co145 : Value).ownBlock) (.slice Ao115 t426.length co115) t426) := ⟨h7_⟩
                have n8_ : Aside0 (Kd.R (Kd.int .u8) 5 w176 w.heap.size (fun k_ => some k_ ≠ (v448 : Value).ownBlock ∧ some k_ ≠ (v451 : Value).ownBlock ∧ some k_ ≠ (.slice Ao97 t395.length co97 : Value).ownBlock ∧ some k_ ≠ (.slice Ao92 t388.length co92 : Value).ownBlock ∧ some k_ ≠ (.slice Ao111 t423.length co111 : Value).ownBlock) (.slice Ao143 t439.length co143) t439) := ⟨h8_⟩
                have n9_ : Aside0 (Kd.S k45 45 w176 w.heap.size (fun k_ => some k_ ≠ (v448 : Value).ownBlock ∧ some k_ ≠ (v451 : Value).ownBlock ∧ some k_ ≠ (.slice Ao97 t395.length co97 : Value).ownBlock ∧ some k_ ≠ (.slice Ao99 t398.length co99 : Value).ownBlock ∧ some k_ ≠ (.slice Ao92 t388.length co92 : Value).ownBlock ∧ some k_ ≠ (.slice Ao95 t391.length co95 : Value).ownBlock ∧ some k_ ≠ (.slice Ao111 t423.length co111 : Value).ownBlock ∧ some k_ ≠ (.slice Ao115 t426.length co115 : Value).ownBlock ∧ some k_ ≠ (.slice Ao143 t439.length co143 : Value).ownBlock) (.slice Ao145 t442.length co145) t442) := ⟨h9_⟩
                have n10_ : Aside0 (w176.heap[zR]? = some (.cells #[.slice Ao97 t395.length co97, .slice Ao99 t398.length co99] 35 (0, 0))) := ⟨h10_⟩
                have n11_ : Aside0 (w176.heap[zU]? = some (.cells #[.slice Ao92 t388.length co92, .slice Ao95 t391.length co95] 35 (0, 0))) := ⟨h11_⟩
                have n12_ : Aside0 (w176.heap[zG]? = some (.cells #[.slice Ao111 t423.length co111, .slice Ao115 t426.length co115] 35 (0, 0))) := ⟨h12_⟩
                have n13_ : Aside0 (w176.heap[zT]? = some (.cells #[.slice Ao143 t439.length co143, .slice Ao145 t442.length co145] 35 (0, 0))) := ⟨h13_⟩
                have n14_ : Aside0 (Below w.heap.size w w176) := ⟨h14_⟩
                clear zL
                clear zM
                clear zK
                clear zN
                clear zO
                clear zP
                clear zab
                clear zeb
                clear zH
                clear zI
                clear zJ
                clear zS
                clear HB
                clear h0_ h1_ h2_ h3_ h4_ h5_ h6_ h7_ h8_ h9_ h10_ h11_ h12_ h13_ h14_
                have zBb := n0_
                have zGb := n1_
                have zL := n2_
                have zM := n3_
                have zK := n4_
                have zN := n5_
                have zO := n6_
                have zP := n7_
                have zab := n8_
                have zeb := n9_
                have zH := n10_
                have zI := n11_
                have zJ := n12_
                have zS := n13_
                have HB := n14_
                clear n0_ n1_ n2_ n3_ n4_ n5_ n6_ n7_ n8_ n9_ n10_ n11_ n12_ n13_ n14_
                have hHeld : w176.cell? ⟨zT, 0, none⟩ = some (.slice Ao143 t439.length co143) ∧ w176.cell? ⟨zT, 1, none⟩ = some (.slice Ao145 t442.length co145) ∧ w176.cell? ⟨zR, 0, none⟩ = some (.slice Ao97 t395.length co97) ∧ w176.cell? ⟨zR, 1, none⟩ = some (.slice Ao99 t398.length co99) := hS_
                refine norm_ (a' := ?_) ?_ ?_
                rotate_left
                ·simp only [putAll, Act.put, List.setIfInBounds_toArray, List.set_cons_zero, List.set_cons_succ]
                 rfl
                refine zA (i := 10) (N := some 127) (v := ?_) (a' := ?_) #[true, true, true, true, true, true, true, true, true, true, true, false] rfl rfl (zB HT_.out (by kernel_rfl)) (fun _ _ _ h => h) (Or.inl ⟨by rfl, ?_⟩) ?_ ?_
                rotate_left
                ·intro w'
                 go_simp
                 with_reducible rfl
                rotate_left
                ·simp only [Act.put, List.setIfInBounds_toArray, List.set_cons_zero, List.set_cons_succ, zp, zq]
                 rfl
                refine zA (i := 11) (N := some 128) (v := ?_) (a' := ?_) #[true, true, true, true, true, true, true, true, true, true, true, true] rfl rfl (zB HT_.out (by kernel_rfl)) (fun _ _ _ h => h) (Or.inl ⟨by rfl, ?_⟩) ?_ ?_
                rotate_left
                ·intro w'
                 go_simp
                 with_reducible rfl
                rotate_left
                ·simp only [Act.put, List.setIfInBounds_toArray, List.set_cons_zero, List.set_cons_succ, zp, zq]
                 rfl
                refine done_ (done_of HT_.out (by kernel_rfl)) ?_
                try go_wp2
                go_roundg k4
                case measure => have := HJ2.out; have := HJ81.out; have := HK3.out; have := HK4.out; omega
                case rel => exact ⟨(wrap64 (x12_3 + 1)), (by first | rfl | (simp; done) | (simp [*]; done)), H', ⟨by have := HJ2.out; have := HJ81.out; have := HK3.out; have := HK4.out; omega⟩, ⟨RL (Kd.R_mono zL.out (fun _ hk => ⟨hk.2.2.1, ⟨hk.2.2.2.1, hk.2.2.2.2⟩⟩))⟩, ⟨SL (Kd.S_mono zM.out (fun _ hk => ⟨hk.2.2.1, ⟨hk.2.2.2.1, ⟨hk.2.2.2.2.1, ⟨hk.2.2.2.2.2.1, ⟨hk.2.2.2.2.2.2.1, ⟨hk.2.2.2.2.2.2.2.1, hk.2.2.2.2.2.2.2.2⟩⟩⟩⟩⟩⟩))⟩, ⟨RL (Kd.R_mono zK.out (fun _ hk => ⟨hk.2.2.1, ⟨hk.2.2.2.1, hk.2.2.2.2⟩⟩))⟩, ⟨SL (Kd.S_mono zN.out (fun _ hk => ⟨hk.2.2.1, ⟨hk.2.2.2.1, ⟨hk.2.2.2.2.1, ⟨hk.2.2.2.2.2.1, ⟨hk.2.2.2.2.2.2.1, ⟨hk.2.2.2.2.2.2.2.1, hk.2.2.2.2.2.2.2.2⟩⟩⟩⟩⟩⟩))⟩, ⟨RL (Kd.R_mono zO.out (fun _ hk => ⟨hk.2.2.1, ⟨hk.2.2.2.1, hk.2.2.2.2⟩⟩))⟩, ⟨SL (Kd.S_mono zP.out (fun _ hk => ⟨hk.2.2.1, ⟨hk.2.2.2.1, ⟨hk.2.2.2.2.1, ⟨hk.2.2.2.2.2.1, ⟨hk.2.2.2.2.2.2.1, ⟨hk.2.2.2.2.2.2.2.1, hk.2.2.2.2.2.2.2.2⟩⟩⟩⟩⟩⟩))⟩, ⟨RL (Kd.R_mono zab.out (fun _ hk => ⟨hk.2.2.1, ⟨hk.2.2.2.1, hk.2.2.2.2⟩⟩))⟩, ⟨SL (Kd.S_mono zeb.out (fun _ hk => ⟨hk.2.2.1, ⟨hk.2.2.2.1, ⟨hk.2.2.2.2.1, ⟨hk.2.2.2.2.2.1, ⟨hk.2.2.2.2.2.2.1, ⟨hk.2.2.2.2.2.2.2.1, hk.2.2.2.2.2.2.2.2⟩⟩⟩⟩⟩⟩))⟩, ⟨BL zH.out⟩, ⟨BL zI.out⟩, ⟨BL zJ.out⟩, ⟨BL zS.out⟩, ⟨by repeat (first | (with_reducible first | exact HB.out | apply zf | apply ze | apply zi | refine zc ?_ zY.out | refine zc ?_ zbb.out | refine zc ?_ zgb.out | refine zc ?_ zob.out) | exact HB.out)⟩⟩
               ·rw [if_neg c166] at H
                have c166b0 : ((strOfNums t447).toList == (strOfNums t450).toList) = false := beq_eq_false_iff_ne.mpr c166
                have c166b1 : ((strOfNums t447).toList != (strOfNums t450).toList) = true := bne_iff_ne.mpr c166
                exact absurd H (by simp)
              ·replace c163 := Bool.eq_false_iff.mpr c163
               subst c163
               have H1 : (laws_FnSync.l0 k4 t401 (wrap64 ((t395.length : Int) / 64)) (wrap64 (x12_3 + 1)) t395 t398 t439 t442) = some r := by rw [if_neg (show ¬ (false = true) by decide)] at H; exact H
               clear H
               have H := H1
               clear H1
               have H' := Aside0.mk H
               clear H
               have zkd := zxb.out
               have zld := zyb.out
               have zmd := zvb.out
               have znd := zCb.out
               have zod := zrb.out
               have zpd := zub.out
               have zkc : wr.cell? ⟨zR, 0, none⟩ = some (.slice Ao97 t395.length co97) := (zb zH.out 0).trans rfl
               have zlc : wr.cell? ⟨zR, 1, none⟩ = some (.slice Ao99 t398.length co99) := (zb zH.out 1).trans rfl
               have zmc := zd zH.out 0
               have znc := zd zH.out 1
               try go_wp2
               have n0_ := Aside0.mk (Kd.R_drew zL.out)
               have n1_ := Aside0.mk (Kd.S_drew zM.out)
               have n2_ := Aside0.mk (Kd.R_drew zK.out)
               have n3_ := Aside0.mk (Kd.S_drew zN.out)
               have n4_ := Aside0.mk (Kd.R_drew zO.out)
               have n5_ := Aside0.mk (Kd.S_drew zP.out)
               have n6_ := Aside0.mk (Kd.R_drew zab.out)
               have n7_ := Aside0.mk (Kd.S_drew zeb.out)
               have n8_ := Aside0.mk (zg zH.out)
               have n9_ := Aside0.mk (zg zI.out)
               have n10_ := Aside0.mk (zg zJ.out)
               have n11_ := Aside0.mk (zg zS.out)
               have n12_ := Aside0.mk (zi HB.out)
               clear zL
               clear zM
               clear zK
               clear zN
               clear zO
               clear zP
               clear zab
               clear zeb
               clear zH
               clear zI
               clear zJ
               clear zS
               clear HB
               have zL := n0_
               have zM := n1_
               have zK := n2_
               have zN := n3_
               have zO := n4_
               have zP := n5_
               have zab := n6_
               have zeb := n7_
               have zH := n8_
               have zI := n9_
               have zJ := n10_
               have zS := n11_
               have HB := n12_
               clear n0_ n1_ n2_ n3_ n4_ n5_ n6_ n7_ n8_ n9_ n10_ n11_ n12_
               refine start_ (n := 12) (S := fun w' => True) (ds := []) #[false, false, false, false, false, false, false, false, false, false, false, false] (by kernel_rfl) rfl rfl trivial (fun hHeld => ?_); refine with_tabW laws_FnSync.tab22 laws_FnSync.bits22 (fun HT_ HW_ => ?_)
               generalize wr.drew = w191 at zL zM zK zN zO zP zab zeb zH zI zJ zS HB hHeld ⊢
               refine zA (i := 0) (N := some 117) (v := ?_) (a' := ?_) #[true, false, false, false, false, false, false, false, false, false, false, false] rfl rfl (zB HT_.out (by kernel_rfl)) (fun _ _ _ h => h) (Or.inl ⟨by rfl, ?_⟩) ?_ ?_
               rotate_left
               ·intro w'
                go_simp
                with_reducible rfl
               rotate_left
               ·simp only [Act.put, List.setIfInBounds_toArray, List.set_cons_zero, List.set_cons_succ, zp, zq]
                rfl
               refine zA (i := 1) (N := some 118) (v := ?_) (a' := ?_) #[true, true, false, false, false, false, false, false, false, false, false, false] rfl rfl (zB HT_.out (by kernel_rfl)) (fun _ _ _ h => h) (Or.inl ⟨by rfl, ?_⟩) ?_ ?_
               rotate_left
               ·intro w'
                go_simp
                with_reducible rfl
               rotate_left
               ·simp only [Act.put, List.setIfInBounds_toArray, List.set_cons_zero, List.set_cons_succ, zp, zq]
                rfl
               refine zA (i := 2) (N := some 119) (v := undef) (a' := ?_) #[true, true, true, false, false, false, false, false, false, false, false, false] rfl rfl (zB HT_.out (by kernel_rfl)) (fun _ _ _ h => h) (Or.inr ⟨by rfl, rfl⟩) ?_ ?_
               rotate_left
               ·simp only [Act.put, List.setIfInBounds_toArray, List.set_cons_zero, List.set_cons_succ, zp, zq]
                rfl
               refine zA (i := 3) (N := some 120) (v := undef) (a' := ?_) #[true, true, true, true, false, false, false, false, false, false, false, false] rfl rfl (zB HT_.out (by kernel_rfl)) (fun _ _ _ h => h) (Or.inr ⟨by rfl, rfl⟩) ?_ ?_
               rotate_left
               ·simp only [Act.put, List.setIfInBounds_toArray, List.set_cons_zero, List.set_cons_succ, zp, zq]
                rfl
               refine zA (i := 4) (N := some 121) (v := undef) (a' := ?_) #[true, true, true, true, true, false, false, false, false, false, false, false] rfl rfl (zB HT_.out (by kernel_rfl)) (fun _ _ _ h => h) (Or.inr ⟨by rfl, rfl⟩) ?_ ?_
               rotate_left
               ·simp only [Act.put, List.setIfInBounds_toArray, List.set_cons_zero, List.set_cons_succ, zp, zq]
                rfl
               refine zA (i := 5) (N := some 122) (v := undef) (a' := ?_) #[true, true, true, true, true, true, false, false, false, false, false, false] rfl rfl (zB HT_.out (by kernel_rfl)) (fun _ _ _ h => h) (Or.inr ⟨by rfl, rfl⟩) ?_ ?_
               rotate_left
               ·simp only [Act.put, List.setIfInBounds_toArray, List.set_cons_zero, List.set_cons_succ, zp, zq]
                rfl
               refine zA (i := 6) (N := some 123) (v := undef) (a' := ?_) #[true, true, true, true, true, true, true, false, false, false, false, false] rfl rfl (zB HT_.out (by kernel_rfl)) (fun _ _ _ h => h) (Or.inr ⟨by rfl, rfl⟩) ?_ ?_
               rotate_left
               ·simp only [Act.put, List.setIfInBounds_toArray, List.set_cons_zero, List.set_cons_succ, zp, zq]
                rfl
               refine zA (i := 7) (N := some 124) (v := undef) (a' := ?_) #[true, true, true, true, true, true, true, true, false, false, false, false] rfl rfl (zB HT_.out (by kernel_rfl)) (fun _ _ _ h => h) (Or.inr ⟨by rfl, rfl⟩) ?_ ?_
               rotate_left
               ·simp only [Act.put, List.setIfInBounds_toArray, List.set_cons_zero, List.set_cons_succ, zp, zq]
                rfl
               refine zA (i := 8) (N := some 125) (v := undef) (a' := ?_) #[true, true, true, true, true, true, true, true, true, false, false, false] rfl rfl (zB HT_.out (by kernel_rfl)) (fun _ _ _ h => h) (Or.inr ⟨by rfl, rfl⟩) ?_ ?_
               rotate_left
               ·simp only [Act.put, List.setIfInBounds_toArray, List.set_cons_zero, List.set_cons_succ, zp, zq]
                rfl
               refine zA (i := 9) (N := some 126) (v := undef) (a' := ?_) #[true, true, true, true, true, true, true, true, true, true, false, false] rfl rfl (zB HT_.out (by kernel_rfl)) (fun _ _ _ h => h) (Or.inr ⟨by rfl, rfl⟩) ?_ ?_
               rotate_left
               ·simp only [Act.put, List.setIfInBounds_toArray, List.set_cons_zero, List.set_cons_succ, zp, zq]
                rfl
               refine zA (i := 10) (N := some 127) (v := undef) (a' := ?_) #[true, true, true, true, true, true, true, true, true, true, true, false] rfl rfl (zB HT_.out (by kernel_rfl)) (fun _ _ _ h => h) (Or.inr ⟨by rfl, rfl⟩) ?_ ?_
               rotate_left
               ·simp only [Act.put, List.setIfInBounds_toArray, List.set_cons_zero, List.set_cons_succ, zp, zq]
                rfl
               refine zA (i := 11) (N := some 128) (v := ?_) (a' := ?_) #[true, true, true, true, true, true, true, true, true, true, true, true] rfl rfl (zB HT_.out (by kernel_rfl)) (fun _ _ _ h => h) (Or.inl ⟨by rfl, ?_⟩) ?_ ?_
               rotate_left
               ·intro w'
                go_simp
                with_reducible rfl
               rotate_left
               ·simp only [Act.put, List.setIfInBounds_toArray, List.set_cons_zero, List.set_cons_succ, zp, zq]
                rfl
               refine done_ (done_of HT_.out (by kernel_rfl)) ?_
               try go_wp2
               go_roundg k4
               case measure => have := HJ2.out; have := HJ81.out; have := HK3.out; have := HK4.out; omega
               case rel => exact ⟨(wrap64 (x12_3 + 1)), (by first | rfl | (simp; done) | (simp [*]; done)), H', ⟨by have := HJ2.out; have := HJ81.out; have := HK3.out; have := HK4.out; omega⟩, ⟨RL zL.out⟩, ⟨SL zM.out⟩, ⟨RL zK.out⟩, ⟨SL zN.out⟩, ⟨RL zO.out⟩, ⟨SL zP.out⟩, ⟨RL zab.out⟩, ⟨SL zeb.out⟩, ⟨BL zH.out⟩, ⟨BL zI.out⟩, ⟨BL zJ.out⟩, ⟨BL zS.out⟩, ⟨by repeat (first | (with_reducible first | exact HB.out | apply zf | apply ze | apply zi | refine zc ?_ zY.out | refine zc ?_ zbb.out | refine zc ?_ zgb.out | refine zc ?_ zob.out) | exact HB.out)⟩⟩
          ·rw [if_neg c151] at H
           have c151b0 : decide (x12_3 < (wrap64 ((t395.length : Int) / 64))) = false := decide_eq_false c151
           clear c151
           by_cases c192 : (t442.length : Int) = 0
           ·as_aux_lemma =>
             rw [if_pos c192] at H
             have c192b0 : ((t442.length : Int) == 0) = true := beq_iff_eq.mpr c192
             have c192b1 : ((t442.length : Int) != 0) = false := bne_eq_false_iff_eq.mpr c192
             clear c192
             obtain rfl := (Option.some.inj H)
             have zqd := zub.out
             have zrd := zrb.out
             have zsd := zzb.out
             have ztd := ztb.out
             have zud := zAb.out
             have zvd := zwb.out
             have zoc : wr.cell? ⟨zT, 0, none⟩ = some (.slice Ao143 t439.length co143) := (zb zS.out 0).trans rfl
             have zpc : wr.cell? ⟨zT, 1, none⟩ = some (.slice Ao145 t442.length co145) := (zb zS.out 1).trans rfl
             have zqc := zd zS.out 0
             have zrc := zd zS.out 1
             have zwd := zxb.out
             have zxd := zyb.out
             have zyd := zvb.out
             have zzd := zCb.out
             have zsc : wr.cell? ⟨zR, 0, none⟩ = some (.slice Ao97 t395.length co97) := (zb zH.out 0).trans rfl
             have ztc : wr.cell? ⟨zR, 1, none⟩ = some (.slice Ao99 t398.length co99) := (zb zH.out 1).trans rfl
             have zuc := zd zH.out 0
             have zvc := zd zH.out 1
             go_wp2
             go_ret
             exact ⟨by first | rfl | (simp [errW_none, errW_some] <;> rfl) | (simp [*, errW_none, errW_some] <;> rfl), by repeat (first | (with_reducible first | exact HB.out | apply zf | apply ze | apply zi | refine zc ?_ zY.out | refine zc ?_ zbb.out | refine zc ?_ zgb.out | refine zc ?_ zob.out) | exact HB.out)⟩
           ·rw [if_neg c192] at H
            have c192b0 : ((t442.length : Int) == 0) = false := beq_eq_false_iff_ne.mpr c192
            have c192b1 : ((t442.length : Int) != 0) = true := bne_iff_ne.mpr c192
            have c192b2 : ¬ (t442 = []) := fun h_ => c192 (by rw [h_]; rfl)
            exact absurd H (by simp)
/-- THE ONE PURE STATEMENT of laws_FnSync: yours. -/
def laws_FnSync.Pure : Prop := ∀ (l0 : List Int) (l1 : List Int), l0.length ≤ maxLen → l0.length * 1 ≤ 140737488351232 → (∀ x ∈ l0, (Lit.int .u8 x).wf = true) → l1.length ≤ maxLen → l1.length * 1 ≤ 140737488351232 → (∀ x ∈ l1, (Lit.int .u8 x).wf = true) → ∃ k, laws_FnSync.f k l0 l1 = some true
theorem laws_FnSync.walk (P : laws_FnSync.Pure) (a0 : Option Addr) (len0 cap0 : Nat) (z0 : List Int) (a1 : Option Addr) (len1 cap1 : Nat) (z1 : List Int) (w : World) (w0 : (a0 = none ∧ len0 = 0 ∧ cap0 = 0 ∧ z0 = []) ∨ ∃ x, a0 = some x ∧ len0 ≤ cap0 ∧ cap0 ≤ maxLen ∧ z0.length = cap0 ∧ (∀ i, i < z0.length → w.cell? (x.add i) = some (.int .u8 (z0.getD i 0))) ∧ ∀ n ∈ z0, (Lit.int .u8 n).wf = true) (y0 : len0 * 1 ≤ 140737488351232) (w1 : (a1 = none ∧ len1 = 0 ∧ cap1 = 0 ∧ z1 = []) ∨ ∃ x, a1 = some x ∧ len1 ≤ cap1 ∧ cap1 ≤ maxLen ∧ z1.length = cap1 ∧ (∀ i, i < z1.length → w.cell? (x.add i) = some (.int .u8 (z1.getD i 0))) ∧ ∀ n ∈ z1, (Lit.int .u8 n).wf = true) (y1 : len1 * 1 ≤ 140737488351232) :
  Calls Try.prog 4 #[.slice a0 len0 cap0, .slice a1 len1 cap1] w fun e w' => e = .returned (.bool true) ∧ Below w.heap.size w w' := by
 obtain ⟨l0, rfl, hr0, hm0, hw0, hc0⟩ := ReadsInt.ofRowC w0
 obtain ⟨l1, rfl, hr1, hm1, hw1, hc1⟩ := ReadsInt.ofRowC w1
 obtain ⟨k, h⟩ := P l0 l1 hm0 y0 hw0 hm1 y1 hw1
 refine (laws_FnSync.calls k _ _ l0 _ _ l1 true w (Kd.C_of_reads (d := (0 : Int)) (h1 := fun _ => rfl) hr0) hc0 (Kd.C_of_reads (d := (0 : Int)) (h1 := fun _ => rfl) hr1) hc1 h).mono ?_
 rintro e w' ⟨rfl, hd⟩
 exact ⟨rfl, hd⟩

end Go.Proofs.Ytejecjjimggjeaa.GFnSync
