/- Written by give.py, a program of this session, that runs the kit's print and lays contracts proved by hand beside it. -/
import Derived.Test.YtejecjjimggjeaaGFnSyncx0
import Derived.Test.YtejecjjimggjeaaGFnSyncx1
import Derived.Test.YtejecjjimggjeaaGFnSyncx2
import Derived.Test.YtejecjjimggjeaaGFnSyncx4
import Derived.Test.YtejecjjimggjeaaGFnSyncx5
namespace Go.Proofs.Ytejecjjimggjeaa.GFnSync
open Go.RowKit Go.Proofs.YtejecjjimggjeaaW.PrintWords Go.Proofs.YtejecjjimggjeaaW.PrintLast Go.Proofs.YtejecjjimggjeaaW.PrintMore
attribute [local go_sem] max2_int min2_int max_two min_two max_three min_three max_four min_four
attribute [local go_sem high] Go.Proofs.YtejecjjimggjeaaH.str_leq Go.Proofs.YtejecjjimggjeaaH.str_geq Go.Proofs.YtejecjjimggjeaaH.str_gtr   -- for this text's walks alone
set_option linter.unusedVariables false
set_option linter.unusedSimpArgs false

mutual
def spec_l1DrawGood.l0 : Nat → Int → Int → List Int → Int → Int → Int → List Int → List (S45) → Option (List Int × (List (S45)) × Int × Int × Int)
 | 0, _, _, _, _, _, _, _, _ => none
 | k + 1, x4, x5, x1000, x1001, x1002, x1003, x207000, x207001 => if x5 < x4 then ((spec_l1Next.f x1000 x1001 x1002 x1003 3).bind fun bt208 => (if bt208.1 > 0 then ((spec_l1Fill.f k x1000 bt208.2.1 bt208.2.2.1 bt208.2.2.2).bind fun bt212 => ((spec_DiskWrite.f k x207000 x207001 x5 bt212.1).bind fun bt218 => (spec_l1DrawGood.l0 k x4 (wrap64 (x5 + 1)) x1000 bt212.2.1 bt212.2.2.1 bt212.2.2.2 bt218.1 bt218.2))) else (spec_l1DrawGood.l0 k x4 (wrap64 (x5 + 1)) x1000 bt208.2.1 bt208.2.2.1 bt208.2.2.2 x207000 x207001))) else ((spec_DiskSync.f k x207000 x207001).bind fun bt224 => ((spec_l1Next.f x1000 x1001 x1002 x1003 (wrap64 (3 + x1003))).bind fun bt230 => (spec_l1DrawGood.l1 k x4 bt230.1 x1000 bt230.2.1 bt230.2.2.1 bt230.2.2.2 bt224.1 bt224.2)))
def spec_l1DrawGood.l1 : Nat → Int → Int → List Int → Int → Int → Int → List Int → List (S45) → Option (List Int × (List (S45)) × Int × Int × Int)
 | 0, _, _, _, _, _, _, _, _ => none
 | k + 1, x4, x6, x1000, x1001, x1002, x1003, x207000, x207001 => if x6 > 0 then ((spec_l1Next.f x1000 x1001 x1002 x1003 x4).bind fun bt234 => ((spec_l1Fill.f k x1000 bt234.2.1 bt234.2.2.1 bt234.2.2.2).bind fun bt238 => ((spec_DiskWrite.f k x207000 x207001 bt234.1 bt238.1).bind fun bt244 => (spec_l1DrawGood.l1 k x4 (wrap64 (x6 - 1)) x1000 bt238.2.1 bt238.2.2.1 bt238.2.2.2 bt244.1 bt244.2)))) else (some (x207000, x207001, x1001, x1002, x1003))
end
def spec_l1DrawGood.f (k : Nat) (s0_0 : List Int) (s0_1 : Int) (s0_2 : Int) (s0_3 : Int) : Option (List Int × (List (S45)) × Int × Int × Int) := (spec_l1Next.f s0_0 s0_1 s0_2 s0_3 5).bind fun bt196 => ((spec_NewDisk.f (wrap64 (1 + bt196.1))).bind fun bt200 => ((spec_l1Blocks.f bt200.1 bt200.2).bind fun t207 => (spec_l1DrawGood.l0 k t207 0 s0_0 bt196.2.1 bt196.2.2.1 bt196.2.2.2 bt200.1 bt200.2)))
theorem spec_l1DrawGood.mono_l : ∀ k, (∀ y0 y1 y2 y3 y4 y5 y6 y7, LeO (spec_l1DrawGood.l0 k y0 y1 y2 y3 y4 y5 y6 y7) (spec_l1DrawGood.l0 (k + 1) y0 y1 y2 y3 y4 y5 y6 y7)) ∧ (∀ y0 y1 y2 y3 y4 y5 y6 y7, LeO (spec_l1DrawGood.l1 k y0 y1 y2 y3 y4 y5 y6 y7) (spec_l1DrawGood.l1 (k + 1) y0 y1 y2 y3 y4 y5 y6 y7))
 | 0 => ⟨fun _ _ _ _ _ _ _ _ r h => by simp [spec_l1DrawGood.l0] at h, fun _ _ _ _ _ _ _ _ r h => by simp [spec_l1DrawGood.l1] at h⟩
 | k + 1 => by
  obtain ⟨ih0, ih1⟩ := spec_l1DrawGood.mono_l k
  refine ⟨?_, ?_⟩
  ·intro y0 y1 y2 y3 y4 y5 y6 y7
   unfold spec_l1DrawGood.l0
   repeat' first
   | (with_reducible exact ih0 _ _ _ _ _ _ _ _)
   | (with_reducible exact ih1 _ _ _ _ _ _ _ _)
   | (with_reducible exact spec_DiskSync.mono _ _ _)
   | (with_reducible exact spec_DiskWrite.mono _ _ _ _ _)
   | (with_reducible exact spec_l1Fill.mono _ _ _ _ _)
   | (with_reducible exact LeO.refl _)
   | (with_reducible exact LeO.none _)
   | (with_reducible refine LeO.ite ?_ ?_)
   | (with_reducible refine LeO.bind ?_ (fun _ => ?_))
   | exact ih0 _ _ _ _ _ _ _ _
   | exact ih1 _ _ _ _ _ _ _ _
   | exact spec_DiskSync.mono _ _ _
   | exact spec_DiskWrite.mono _ _ _ _ _
   | exact spec_l1Fill.mono _ _ _ _ _
   | exact LeO.none _
   | refine LeO.ite ?_ ?_
   | refine LeO.bind ?_ (fun _ => ?_)
  ·intro y0 y1 y2 y3 y4 y5 y6 y7
   unfold spec_l1DrawGood.l1
   repeat' first
   | (with_reducible exact ih0 _ _ _ _ _ _ _ _)
   | (with_reducible exact ih1 _ _ _ _ _ _ _ _)
   | (with_reducible exact spec_DiskSync.mono _ _ _)
   | (with_reducible exact spec_DiskWrite.mono _ _ _ _ _)
   | (with_reducible exact spec_l1Fill.mono _ _ _ _ _)
   | (with_reducible exact LeO.refl _)
   | (with_reducible exact LeO.none _)
   | (with_reducible refine LeO.ite ?_ ?_)
   | (with_reducible refine LeO.bind ?_ (fun _ => ?_))
   | exact ih0 _ _ _ _ _ _ _ _
   | exact ih1 _ _ _ _ _ _ _ _
   | exact spec_DiskSync.mono _ _ _
   | exact spec_DiskWrite.mono _ _ _ _ _
   | exact spec_l1Fill.mono _ _ _ _ _
   | exact LeO.none _
   | refine LeO.ite ?_ ?_
   | refine LeO.bind ?_ (fun _ => ?_)
theorem spec_l1DrawGood.mono : ∀ a0 a1 a2 a3 k, LeO (spec_l1DrawGood.f k a0 a1 a2 a3) (spec_l1DrawGood.f (k + 1) a0 a1 a2 a3) := by
 intro a0 a1 a2 a3 k
 obtain ⟨ih0, ih1⟩ := spec_l1DrawGood.mono_l k
 unfold spec_l1DrawGood.f
 repeat' first
   | (with_reducible exact ih0 _ _ _ _ _ _ _ _)
   | (with_reducible exact ih1 _ _ _ _ _ _ _ _)
   | (with_reducible exact spec_DiskSync.mono _ _ _)
   | (with_reducible exact spec_DiskWrite.mono _ _ _ _ _)
   | (with_reducible exact spec_l1Fill.mono _ _ _ _ _)
   | (with_reducible exact LeO.refl _)
   | (with_reducible exact LeO.none _)
   | (with_reducible refine LeO.ite ?_ ?_)
   | (with_reducible refine LeO.bind ?_ (fun _ => ?_))
   | exact ih0 _ _ _ _ _ _ _ _
   | exact ih1 _ _ _ _ _ _ _ _
   | exact spec_DiskSync.mono _ _ _
   | exact spec_DiskWrite.mono _ _ _ _ _
   | exact spec_l1Fill.mono _ _ _ _ _
   | exact LeO.none _
   | refine LeO.ite ?_ ?_
   | refine LeO.bind ?_ (fun _ => ?_)
def spec_l1DrawGood.T12 : Bool × List (List Nat × List Nat) := (true, [([], []), ([], []), ([], []), ([1, 2], [1, 2]), ([], []), ([4, 3], [4]), ([0, 3, 5, 5], [0, 3, 5]), ([6, 6, 0, 1, 2, 3, 4, 5, 6], [6])])
def spec_l1DrawGood.B12 : List Nat := [0, 0, 0, 6, 0, 30, 63, 127]
theorem spec_l1DrawGood.tab12 : rtab .any (opsOf Try.f66 12) = spec_l1DrawGood.T12 := by kernel_rfl
theorem spec_l1DrawGood.bits12 : waitsOk spec_l1DrawGood.T12.2 spec_l1DrawGood.B12 = true := by kernel_rfl
set_option maxHeartbeats 8000000 in
set_option maxRecDepth 100000 in
theorem spec_l1DrawGood.calls (k : Nat) (g : Nat) (s0_0 : List Int) (s0_1 : Int) (s0_2 : Int) (s0_3 : Int) (r1 : List Int) (r2 : List (S45)) (r3 : Int) (r4 : Int) (r5 : Int) (w0 w : World) (hI : IsS93 w0 w g s0_0 s0_1 s0_2 s0_3) (hB : BelX g w0 w) (h : spec_l1DrawGood.f k s0_0 s0_1 s0_2 s0_3 = some (r1, r2, r3, r4, r5)) :
  Calls Try.prog 66 #[.pointer (some ⟨g, 0, none⟩)] w fun e w' => ∃ v0_ v1_ : Value, e = .returned (.agg #[v0_, v1_]) ∧ Kd.R (Kd.int .u8) 5 w' w.heap.size (fun _ => True) v0_ r1 ∧ Kd.S k45 45 w' w.heap.size (fun k_ => some k_ ≠ (v0_ : Value).ownBlock) v1_ r2 ∧ IsS93 w0 w' g s0_0 r3 r4 r5 ∧ BelX g w0 w' ∧ KeepBut w w' g none := by
 have hu35 := Try.underlying35
 have HI0 := Aside0.mk hI
 have HK := Aside0.mk (KeepBut.refl w g none)
 have HL := Aside0.mk hB.size
 clear hI
 have HW0 := Aside0.mk hB.size
 have HB := Aside0.mk hB
 clear hB
 have H : ((spec_l1Next.f s0_0 s0_1 s0_2 s0_3 5).bind fun bt196 => ((spec_NewDisk.f (wrap64 (1 + bt196.1))).bind fun bt200 => ((spec_l1Blocks.f bt200.1 bt200.2).bind fun t207 => (spec_l1DrawGood.l0 k t207 0 s0_0 bt196.2.1 bt196.2.2.1 bt196.2.2.2 bt200.1 bt200.2)))) = some (r1, r2, r3, r4, r5) := h
 clear h
 replace H := Option.bind_eq_some_iff.mp H
 obtain ⟨⟨t196, t197, t198, t199⟩, A20, H⟩ := H
 replace H : ((spec_NewDisk.f (wrap64 (1 + t196))).bind fun bt200 => ((spec_l1Blocks.f bt200.1 bt200.2).bind fun t207 => (spec_l1DrawGood.l0 k t207 0 s0_0 t197 t198 t199 bt200.1 bt200.2))) = some (r1, r2, r3, r4, r5) := H
 have A2 := Aside0.mk A20
 clear A20
 replace H := Option.bind_eq_some_iff.mp H
 obtain ⟨⟨t200, t203⟩, A30, H⟩ := H
 replace H : ((spec_l1Blocks.f t200 t203).bind fun t207 => (spec_l1DrawGood.l0 k t207 0 s0_0 t197 t198 t199 t200 t203)) = some (r1, r2, r3, r4, r5) := H
 have A3 := Aside0.mk A30
 clear A30
 replace H := Option.bind_eq_some_iff.mp H
 obtain ⟨t207, A40, H⟩ := H
 replace H : (spec_l1DrawGood.l0 k t207 0 s0_0 t197 t198 t199 t200 t203) = some (r1, r2, r3, r4, r5) := H
 have A4 := Aside0.mk A40
 clear A40
 have H' := Aside0.mk H
 clear H
 go_enter Try.func66, Try.ntmps66
 go_wp2_with (first | ((with_reducible refine zt (N := 2) rfl ?_); refine zF ?hg (N := 2) ?hd (cs := #[.slice none 0 0, .slice none 0 0]) (t := 35) ?hr ?_; (case hd => rfl); (case hg => rfl); (case hr => first | (go_simp; done) | (go_simp; rfl)); intro zN hg w5 hbox hb; have n0_ := Aside0.mk (IsS93.below (by exact IsS93.l HI0.out) hb); have n1_ := Aside0.mk (KeepBut.trans (by exact kx HK.out) (KeepBut.of_below hb g none) (.inl rfl)); have n2_ := Aside0.mk (belx_step (g := g) (w0 := w0) (by exact bx HB.out) hb); have n3_ := Aside0.mk (hbox); have n4_ := Aside0.mk ((by rw [hg]; exact (keep_size (w := w) (g := g) (row := none) (by exact kx HK.out)) : w.heap.size ≤ zN)); have n5_ := Aside0.mk ((Nat.le_trans HW0.out (by rw [hg]; exact (keep_size (w := w) (g := g) (row := none) (by exact kx HK.out)) : w.heap.size ≤ zN) : w0.heap.size ≤ zN)); have n6_ := Aside0.mk ((by rw [hg]; exact Nat.ne_of_lt (IsS93.lt (show IsS93 w0 _ g s0_0 s0_1 s0_2 s0_3 from by exact IsS93.l HI0.out)) : g ≠ zN)); have n7_ := Aside0.mk ((by rw [hg]; exact Nat.ne_of_gt (IsS93.lt (show IsS93 w0 _ g s0_0 s0_1 s0_2 s0_3 from by exact IsS93.l HI0.out)) : zN ≠ g)); clear HI0; clear HK; clear HB; have HI0 := n0_; have HK := n1_; have HB := n2_; have zJ := n3_; have GW195 := n4_; have zR := n5_; have zM := n6_; have zU := n7_; clear n0_ n1_ n2_ n3_ n4_ n5_ n6_ n7_; clear hb hbox hg) | ((with_reducible refine zo (f := 36) rfl ?_); refine zC (some 8) rfl rfl Try.func36 (by kernel_rfl) rfl #[.pointer (some ⟨g, 0, none⟩), .int .i64 5] rfl (by (try simp only [List.map_toArray, List.map_cons, List.map_nil]); first | done | rfl) ?_; (with_reducible refine (spec_l1Next.calls g s0_0 s0_1 s0_2 s0_3 5 t196 t197 t198 t199 w0 _ ?side1 ?side2 A2.out).mono ?_); (case side1 => exact IsS93.l HI0.out); (case side2 => exact bx HB.out); rintro e w6 ⟨rfl, hi, hb, hk⟩; refine ⟨_, rfl, ?_⟩; have n0_ := Aside0.mk (KeepBut.blk hk (g' := zN) (o := .cells #[.slice none 0 0, .slice none 0 0] 35 (0, 0)) (BL zJ.out) zU.out (by simp)); have n1_ := Aside0.mk (KeepBut.trans (by exact kx HK.out) hk (.inl rfl)); have n2_ := Aside0.mk (hb); have n3_ := Aside0.mk (hi); clear zJ; clear HK; clear HB; clear HI0; have zJ := n0_; have HK := n1_; have HB := n2_; have HI0 := n3_; clear n0_ n1_ n2_ n3_; (try clear hb); (try clear hb2); (try clear hk); (try clear hi)) | ((with_reducible refine zo (f := 82) rfl ?_); refine zC (some 10) rfl rfl Try.func82 (by kernel_rfl) rfl #[.int .i64 (wrap64 (1 + t196))] rfl (by (try simp only [List.map_toArray, List.map_cons, List.map_nil]); first | done | rfl) ?_; (with_reducible refine (spec_NewDisk.calls (wrap64 (1 + t196)) t200 t203 _ A3.out).mono ?_); rintro e w7 ⟨v201, v204, rfl, zP, zX, hb⟩; refine ⟨_, rfl, ?_⟩; have n0_ := Aside0.mk (Kd.R_lower zP (keep_size (w := w) (g := g) (row := none) (by exact kx HK.out))); have n1_ := Aside0.mk (Kd.S_lower zX (keep_size (w := w) (g := g) (row := none) (by exact kx HK.out))); have n2_ := Aside0.mk (IsS93.below (by exact IsS93.l HI0.out) hb); have n3_ := Aside0.mk (zl (g := zN) (o := .cells #[.slice none 0 0, .slice none 0 0] 35 (0, 0)) (BL zJ.out) hb); have n4_ := Aside0.mk (KeepBut.trans (by exact kx HK.out) (KeepBut.of_below hb g none) (.inl rfl)); have n5_ := Aside0.mk (belx_step (g := g) (w0 := w0) (by exact bx HB.out) hb); clear HI0; clear zJ; clear HK; clear HB; have zV := n0_; have zW := n1_; have HI0 := n2_; have zJ := n3_; have HK := n4_; have HB := n5_; clear n0_ n1_ n2_ n3_ n4_ n5_; (try clear hb); (try clear hb2); (try clear hk); (try clear hi); (try clear zP); (try clear zX)) | ((with_reducible refine zt (N := 3) rfl ?_); refine zF ?hg (N := 3) ?hd (cs := #[.slice none 0 0, .slice none 0 0]) (t := 35) ?hr ?_; (case hd => rfl); (case hg => rfl); (case hr => first | (go_simp; done) | (go_simp; rfl)); intro zK hg w8 hbox hb; have n0_ := Aside0.mk (Kd.R_below (RL zV.out) hb); have n1_ := Aside0.mk (Kd.S_below (SL zW.out) hb); have n2_ := Aside0.mk (IsS93.below (by exact IsS93.l HI0.out) hb); have n3_ := Aside0.mk (zl (g := zN) (o := .cells #[.slice none 0 0, .slice none 0 0] 35 (0, 0)) (BL zJ.out) hb); have n4_ := Aside0.mk (KeepBut.trans (by exact kx HK.out) (KeepBut.of_below hb g none) (.inl rfl)); have n5_ := Aside0.mk (belx_step (g := g) (w0 := w0) (by exact bx HB.out) hb); have n6_ := Aside0.mk (hbox); have n7_ := Aside0.mk ((by rw [hg]; exact (keep_size (w := w) (g := g) (row := none) (by exact kx HK.out)) : w.heap.size ≤ zK)); have n8_ := Aside0.mk ((Nat.le_trans HW0.out (by rw [hg]; exact (keep_size (w := w) (g := g) (row := none) (by exact kx HK.out)) : w.heap.size ≤ zK) : w0.heap.size ≤ zK)); have n9_ := Aside0.mk ((by rw [hg]; exact Nat.ne_of_lt (zr (g := zN) (o := .cells #[.slice none 0 0, .slice none 0 0] 35 (0, 0)) (BL zJ.out)) : zN ≠ zK)); have n10_ := Aside0.mk ((by rw [hg]; exact Nat.ne_of_gt (zr (g := zN) (o := .cells #[.slice none 0 0, .slice none 0 0] 35 (0, 0)) (BL zJ.out)) : zK ≠ zN)); have n11_ := Aside0.mk ((by rw [hg]; exact Nat.ne_of_lt (IsS93.lt (show IsS93 w0 _ g s0_0 t197 t198 t199 from by exact IsS93.l HI0.out)) : g ≠ zK)); have n12_ := Aside0.mk ((by rw [hg]; exact Nat.ne_of_gt (IsS93.lt (show IsS93 w0 _ g s0_0 t197 t198 t199 from by exact IsS93.l HI0.out)) : zK ≠ g)); clear zV; clear zW; clear HI0; clear zJ; clear HK; clear HB; have zV := n0_; have zW := n1_; have HI0 := n2_; have zJ := n3_; have HK := n4_; have HB := n5_; have zH := n6_; have GW206 := n7_; have zS := n8_; have zO := n9_; have zQ := n10_; have zL := n11_; have zT := n12_; clear n0_ n1_ n2_ n3_ n4_ n5_ n6_ n7_ n8_ n9_ n10_ n11_ n12_; clear hb hbox hg; obtain ⟨Ao9, co9, eo9⟩ := Kd.R_slice zV.out; subst eo9; have zHb := zQ.out; have zIb := zO.out; have zJb := zT.out; have zKb := zL.out; have zcb : w8.cell? ⟨zK, 0, none⟩ = some (.slice none 0 0) := (zb zH.out 0).trans rfl; have zdb : w8.cell? ⟨zK, 1, none⟩ = some (.slice none 0 0) := (zb zH.out 1).trans rfl; have zeb := zd zH.out 0; have zfb := zd zH.out 1; obtain ⟨Ao13, co13, eo13⟩ := Kd.S_slice zW.out; subst eo13) | ((with_reducible refine zo (f := 37) rfl ?_); have y0_ := Aside0.mk (Kd.R_mono (Kd.R_far (p := ⟨zK, 1, none⟩) (Kd.R_far (p := ⟨zK, 0, none⟩) (Kd.R_types zV.out zH.out (by decide)) (fun _ hk => hk.2) (.slice Ao9 t200.length co9)) (fun _ hk => hk.2) (.slice Ao13 t203.length co13)) (fun _ h_ => h_.1)); have y1_ := Aside0.mk (Kd.S_mono (Kd.S_far (p := ⟨zK, 1, none⟩) (Kd.S_far (p := ⟨zK, 0, none⟩) (Kd.S_types zW.out zH.out (by decide)) (fun _ hk => hk.2) (.slice Ao9 t200.length co9)) (fun _ hk => hk.2) (.slice Ao13 t203.length co13)) (fun _ h_ => h_.1)); refine zC (some 12) rfl rfl Try.func37 (by kernel_rfl) rfl #[.agg #[.slice Ao9 t200.length co9, .slice Ao13 t203.length co13]] rfl (by (try simp only [List.map_toArray, List.map_cons, List.map_nil]); first | done | rfl) ?_; (with_reducible refine (spec_l1Blocks.calls _ _ t200 _ _ t203 t207 _ ?side1 ?side2 ?side3 ?side4 A4.out).mono ?_); (case side1 => refine (Kd.R_reads' (e := 5) (base := w.heap.size) (ok := fun k_ => True) (n := t200.length) (c := co9) ?_).2.2; exact (RL y0_.out)); (case side2 => exact (Kd.R_reads' zV.out).2.1); (case side3 => refine (Kd.S_reads' (e := 45) (base := w.heap.size) (ok := fun k_ => some k_ ≠ (.slice Ao9 t200.length co9 : Value).ownBlock) (n := t203.length) (c := co13) ?_).2.2; exact (SL y1_.out)); (case side4 => exact (Kd.S_reads' zW.out).2.1); rintro e w14 ⟨rfl, hb⟩; refine ⟨_, rfl, ?_⟩; have n0_ := Aside0.mk (Kd.R_below (RL y0_.out) hb); have n1_ := Aside0.mk (Kd.S_below (SL y1_.out) hb); have n2_ := Aside0.mk (IsS93.below (show IsS93 w0 ((w8.setCell ⟨zK, 0, none⟩ (.slice Ao9 t200.length co9)).setCell ⟨zK, 1, none⟩ (.slice Ao13 t203.length co13)) g s0_0 t197 t198 t199 from by repeat (first | (with_reducible first | exact HI0.out | apply IsS93.alloc | apply IsS93.drewN | apply IsS93.drew | apply IsS93.set_1 | apply IsS93.set_2 | apply IsS93.set_3 | refine IsS93.far ?_ zM.out _ | refine IsS93.far ?_ zL.out _) | exact HI0.out)) hb); have n3_ := Aside0.mk (zl (g := zN) (o := .cells #[.slice none 0 0, .slice none 0 0] 35 (0, 0)) (by (with_reducible repeat (first | refine zj ?_ _ | refine zg ?_ | refine zh ?_ _)); refine zE ?_ zO.out _; (with_reducible repeat (first | refine zj ?_ _ | refine zg ?_ | refine zh ?_ _)); refine zE ?_ zO.out _; (with_reducible repeat (first | refine zj ?_ _ | refine zg ?_ | refine zh ?_ _)); exact zJ.out) hb); have n4_ := Aside0.mk (zl (g := zK) (o := .cells #[.slice Ao9 t200.length co9, .slice Ao13 t203.length co13] 35 (0, 0)) (by (with_reducible repeat (first | refine zj ?_ _ | refine zg ?_ | refine zh ?_ _)); refine zz (cs := #[.slice Ao9 t200.length co9, .slice none 0 0]) ?_ 1 _ rfl; (with_reducible repeat (first | refine zj ?_ _ | refine zg ?_ | refine zh ?_ _)); refine zz (cs := #[.slice none 0 0, .slice none 0 0]) ?_ 0 _ rfl; (with_reducible repeat (first | refine zj ?_ _ | refine zg ?_ | refine zh ?_ _)); exact zH.out) hb); have n5_ := Aside0.mk (KeepBut.trans (by repeat (first | (with_reducible first | exact HK.out | apply KeepBut.set_ | apply zx | apply zy | apply zw | refine zu ?_ GW195.out _ | refine zu ?_ GW206.out _) | exact HK.out)) (KeepBut.of_below hb g none) (.inl rfl)); have n6_ := Aside0.mk (belx_step (g := g) (w0 := w0) (by repeat (first | (with_reducible first | exact HB.out | apply belx_alloc | apply belx_drewN | apply belx_drew | refine belx_set ?_ zR.out | refine belx_set ?_ zS.out | apply belx_setg) | exact HB.out)) hb); clear zV; clear zW; clear HI0; clear zJ; clear zH; clear HK; clear HB; have zV := n0_; have zW := n1_; have HI0 := n2_; have zJ := n3_; have zH := n4_; have HK := n5_; have HB := n6_; clear n0_ n1_ n2_ n3_ n4_ n5_ n6_; (try clear hb); (try clear hb2); (try clear hk); (try clear hi); (try clear y0_ y1_)))
 go_loopg [5] k (fun kq v5 w' => ∃ (x5_1 : Int) (x1001_1 : Int) (x1002_1 : Int) (x1003_1 : Int) (x207000_1 : List Int) (x207001_1 : List (S45)) (u207000 : Value) (u207001 : Value), v5 = .int .i64 x5_1 ∧ Aside0 (spec_l1DrawGood.l0 kq t207 x5_1 s0_0 x1001_1 x1002_1 x1003_1 x207000_1 x207001_1 = some (r1, r2, r3, r4, r5)) ∧ Aside0 (kq ≤ k) ∧ Aside0 (Kd.R (Kd.int .u8) 5 w' w.heap.size (fun _ => True) u207000 x207000_1) ∧ Aside0 (Kd.S k45 45 w' w.heap.size (fun k_ => some k_ ≠ (u207000 : Value).ownBlock) u207001 x207001_1) ∧ Aside0 (w'.heap[zN]? = some (.cells #[(.slice none 0 0), (.slice none 0 0)] 35 (0, 0))) ∧ Aside0 (w'.heap[zK]? = some (.cells #[u207000, u207001] 35 (0, 0))) ∧ Aside0 (IsS93 w0 w' g s0_0 x1001_1 x1002_1 x1003_1) ∧ Aside0 (KeepBut w w' g none) ∧ Aside0 (BelX g w0 w'))
 case atStart => exact ⟨(0), (t197), (t198), (t199), (t200), (t203), (.slice Ao9 t200.length co9), (.slice Ao13 t203.length co13), (by first | rfl | (simp; done) | (simp [*]; done)), H', ⟨Nat.le_refl _⟩, ⟨RL zV.out⟩, ⟨SL zW.out⟩, ⟨BL zJ.out⟩, ⟨BL zH.out⟩, ⟨by repeat (first | (with_reducible first | exact HI0.out | apply IsS93.alloc | apply IsS93.drewN | apply IsS93.drew | apply IsS93.set_1 | apply IsS93.set_2 | apply IsS93.set_3 | refine IsS93.far ?_ zM.out _ | refine IsS93.far ?_ zL.out _) | exact HI0.out)⟩, ⟨by repeat (first | (with_reducible first | exact HK.out | apply KeepBut.set_ | apply zx | apply zy | apply zw | refine zu ?_ GW195.out _ | refine zu ?_ GW206.out _) | exact HK.out)⟩, ⟨by repeat (first | (with_reducible first | exact HB.out | apply belx_alloc | apply belx_drewN | apply belx_drew | refine belx_set ?_ zR.out | refine belx_set ?_ zS.out | apply belx_setg) | exact HB.out)⟩⟩
 case round =>
  clear H'
  try clear c1
  try clear p2
  try clear c3
  try clear c6
  try clear p6
  try clear c8
  try clear c10
  try clear c11
  try clear zcb
  try clear zdb
  try clear zeb
  try clear zfb
  obtain ⟨x5_1, x1001_1, x1002_1, x1003_1, x207000_1, x207001_1, u207000, u207001, rfl, HA, HK1, zG, zI, zJ, zH, HI0, HK, HB⟩ := hrel
  cases gk with
  | zero => exact absurd HA.out (by simp [spec_l1DrawGood.l0])
  | succ k1 =>
   have H := HA.out
   clear HA
   simp only [spec_l1DrawGood.l0] at H
   by_cases c15 : x5_1 < t207
   ·rw [if_pos c15] at H
    have c15b0 : decide (x5_1 < t207) = true := decide_eq_true c15
    clear c15
    replace H := Option.bind_eq_some_iff.mp H
    obtain ⟨⟨t208, t209, t210, t211⟩, A160, H⟩ := H
    replace H : (if t208 > 0 then ((spec_l1Fill.f k1 s0_0 t209 t210 t211).bind fun bt212 => ((spec_DiskWrite.f k1 x207000_1 x207001_1 x5_1 bt212.1).bind fun bt218 => (spec_l1DrawGood.l0 k1 t207 (wrap64 (x5_1 + 1)) s0_0 bt212.2.1 bt212.2.2.1 bt212.2.2.2 bt218.1 bt218.2))) else (spec_l1DrawGood.l0 k1 t207 (wrap64 (x5_1 + 1)) s0_0 t209 t210 t211 x207000_1 x207001_1)) = some (r1, r2, r3, r4, r5) := H
    have A16 := Aside0.mk A160
    clear A160
    by_cases c17 : t208 > 0
    ·rw [if_pos c17] at H
     have c17b0 : decide (0 < t208) = true := decide_eq_true c17
     clear c17
     replace H := Option.bind_eq_some_iff.mp H
     obtain ⟨⟨t212, t215, t216, t217⟩, A180, H⟩ := H
     replace H : ((spec_DiskWrite.f k1 x207000_1 x207001_1 x5_1 t212).bind fun bt218 => (spec_l1DrawGood.l0 k1 t207 (wrap64 (x5_1 + 1)) s0_0 t215 t216 t217 bt218.1 bt218.2)) = some (r1, r2, r3, r4, r5) := H
     have A18 := Aside0.mk A180
     clear A180
     replace H := Option.bind_eq_some_iff.mp H
     obtain ⟨⟨t218, t221⟩, A190, H⟩ := H
     replace H : (spec_l1DrawGood.l0 k1 t207 (wrap64 (x5_1 + 1)) s0_0 t215 t216 t217 t218 t221) = some (r1, r2, r3, r4, r5) := H
     have A19 := Aside0.mk A190
     clear A190
     have H' := Aside0.mk H
     clear H
     try go_wp2_with (first | ((with_reducible refine zo (f := 36) rfl ?_); refine zC (some 19) rfl rfl Try.func36 (by kernel_rfl) rfl #[.pointer (some ⟨g, 0, none⟩), .int .i64 3] rfl (by (try simp only [List.map_toArray, List.map_cons, List.map_nil]); first | done | rfl) ?_; (with_reducible refine (spec_l1Next.calls g s0_0 x1001_1 x1002_1 x1003_1 3 t208 t209 t210 t211 w0 _ ?side1 ?side2 A16.out).mono ?_); (case side1 => exact IsS93.l HI0.out); (case side2 => exact bx HB.out); rintro e w20 ⟨rfl, hi, hb, hk⟩; refine ⟨_, rfl, ?_⟩; have n0_ := Aside0.mk (Kd.R_mono (Kd.R_keep (IsS93.apart (show IsS93 w0 _ g s0_0 x1001_1 x1002_1 x1003_1 from by exact IsS93.l HI0.out) (RL zG.out) (by decide)) hk (fun _ h => h.2)) (fun _ h => h.1)); have n1_ := Aside0.mk (Kd.S_mono (Kd.S_keep (IsS93.apartS (show IsS93 w0 _ g s0_0 x1001_1 x1002_1 x1003_1 from by exact IsS93.l HI0.out) (SL zI.out) (by decide)) hk (fun _ h => h.2)) (fun _ h => h.1)); have n2_ := Aside0.mk (KeepBut.blk hk (g' := zN) (o := .cells #[.slice none 0 0, .slice none 0 0] 35 (0, 0)) (BL zJ.out) zU.out (by simp)); have n3_ := Aside0.mk (KeepBut.blk hk (g' := zK) (o := .cells #[u207000, u207001] 35 (0, 0)) (BL zH.out) zT.out (by simp)); have n4_ := Aside0.mk (KeepBut.trans (by exact kx HK.out) hk (.inl rfl)); have n5_ := Aside0.mk (hb); have n6_ := Aside0.mk (hi); clear zG; clear zI; clear zJ; clear zH; clear HK; clear HB; clear HI0; have zG := n0_; have zI := n1_; have zJ := n2_; have zH := n3_; have HK := n4_; have HB := n5_; have HI0 := n6_; clear n0_ n1_ n2_ n3_ n4_ n5_ n6_; (try clear hb); (try clear hb2); (try clear hk); (try clear hi)))
     have n0_ := Aside0.mk (Kd.R_drew zG.out)
     have n1_ := Aside0.mk (Kd.S_drew zI.out)
     have n2_ := Aside0.mk (zg zJ.out)
     have n3_ := Aside0.mk (zg zH.out)
     have n4_ := Aside0.mk (IsS93.drew HI0.out)
     have n5_ := Aside0.mk (zy HK.out)
     have n6_ := Aside0.mk (belx_drew HB.out)
     clear zG
     clear zI
     clear zJ
     clear zH
     clear HI0
     clear HK
     clear HB
     have zG := n0_
     have zI := n1_
     have zJ := n2_
     have zH := n3_
     have HI0 := n4_
     have HK := n5_
     have HB := n6_
     clear n0_ n1_ n2_ n3_ n4_ n5_ n6_
     refine start_ (n := 6) (S := fun w' => w'.cell? ⟨zK, 0, none⟩ = some (u207000) ∧ w'.cell? ⟨zK, 1, none⟩ = some (u207001)) (ds := [5]) #[false, false, false, false, false, false] (by kernel_rfl) rfl rfl ⟨(zb zH.out 0).trans rfl, (zb zH.out 1).trans rfl⟩ (fun hHeld => ?_)
     generalize w20.drew = w21 at zG zI zJ zH HI0 HK HB hHeld ⊢
     refine zA (i := 1) (N := some 22) (v := ?_) (a' := ?_) #[false, true, false, false, false, false] rfl rfl (by kernel_rfl) (fun _ _ _ h => h) (Or.inl ⟨by rfl, ?_⟩) ?_ ?_
     rotate_left
     ·intro w'
      go_simp
      with_reducible rfl
     rotate_left
     ·simp only [Act.put, List.setIfInBounds_toArray, List.set_cons_zero, List.set_cons_succ, zp, zq]
      rfl
     refine zA (i := 2) (N := some 23) (v := ?_) (a' := ?_) #[false, true, true, false, false, false] rfl rfl (by kernel_rfl) (fun _ _ _ h => h) (Or.inl ⟨by rfl, ?_⟩) ?_ ?_
     rotate_left
     ·intro w'
      go_simp
      with_reducible rfl
     rotate_left
     ·simp only [Act.put, List.setIfInBounds_toArray, List.set_cons_zero, List.set_cons_succ, zp, zq]
      rfl
     refine take_ (i := 0) (N := some 21) (v := ?_) (a' := ?_) #[true, true, true, false, false, false] rfl rfl (by kernel_rfl) (fun _ _ _ h => h) (Or.inl ⟨by rfl, ?_⟩) hHeld ?_ ?_
     rotate_left
     ·rintro w' ⟨s0, s1⟩
      go_simp
      with_reducible rfl
     rotate_left
     ·simp only [Act.put, List.setIfInBounds_toArray, List.set_cons_zero, List.set_cons_succ, zp, zq]
      rfl
     refine one_ (i := 3) (N := some 24) #[true, true, true, true, false, false] rfl rfl (by kernel_rfl) (by decide) (fun K hK => ?_)
     refine goes_ Try.func38 (by kernel_rfl) rfl #[.pointer (some ⟨g, 0, none⟩)] (by rfl) rfl rfl (by (try simp only [List.map_toArray, List.map_cons, List.map_nil]); first | done | rfl) ?_
     with_reducible refine (spec_l1Fill.calls k1 g s0_0 t209 t210 t211 t212 t215 t216 t217 w0 _ ?side1 ?side2 A18.out).mono ?_
     (case side1 => repeat (first | (with_reducible first | exact HI0.out | apply IsS93.alloc | apply IsS93.drewN | apply IsS93.drew | apply IsS93.set_1 | apply IsS93.set_2 | apply IsS93.set_3 | refine IsS93.far ?_ zM.out _ | refine IsS93.far ?_ zL.out _) | exact HI0.out))
     (case side2 => repeat (first | (with_reducible first | exact HB.out | apply belx_alloc | apply belx_drewN | apply belx_drew | refine belx_set ?_ zR.out | refine belx_set ?_ zS.out | apply belx_setg) | exact HB.out))
     rintro e w22 ⟨v213, rfl, zP, hi, hb, hk⟩
     refine ⟨_, rfl, ?_⟩
     have n0_ := Aside0.mk (Kd.R_mono (Kd.R_told (Kd.R_oldK (IsS93.apart (show IsS93 w0 _ g s0_0 t209 t210 t211 from by repeat (first | (with_reducible first | exact HI0.out | apply IsS93.alloc | apply IsS93.drewN | apply IsS93.drew | apply IsS93.set_1 | apply IsS93.set_2 | apply IsS93.set_3 | refine IsS93.far ?_ zM.out _ | refine IsS93.far ?_ zL.out _) | exact HI0.out)) (RL zG.out) (by decide)) hk) (Kd.R_base zP)) (fun _ h_ => h_.1))
     have n1_ := Aside0.mk (Kd.S_mono (Kd.S_told (Kd.S_oldK (IsS93.apartS (show IsS93 w0 _ g s0_0 t209 t210 t211 from by repeat (first | (with_reducible first | exact HI0.out | apply IsS93.alloc | apply IsS93.drewN | apply IsS93.drew | apply IsS93.set_1 | apply IsS93.set_2 | apply IsS93.set_3 | refine IsS93.far ?_ zM.out _ | refine IsS93.far ?_ zL.out _) | exact HI0.out)) (SL zI.out) (by decide)) hk) (Kd.R_base zP)) (fun _ h_ => h_.1))
     have n2_ := Aside0.mk (KeepBut.blk hk (g' := zN) (o := .cells #[.slice none 0 0, .slice none 0 0] 35 (0, 0)) (BL zJ.out) zU.out (by simp))
     have n3_ := Aside0.mk (KeepBut.blk hk (g' := zK) (o := .cells #[u207000, u207001] 35 (0, 0)) (BL zH.out) zT.out (by simp))
     have n4_ := Aside0.mk (Kd.R_lower (Kd.R_new' zP (Kd.R_lt (RL zG.out))) (keep_size (w := w) (g := g) (row := none) (by repeat (first | (with_reducible first | exact HK.out | apply KeepBut.set_ | apply zx | apply zy | apply zw | refine zu ?_ GW195.out _ | refine zu ?_ GW206.out _) | exact HK.out))))
     have n5_ := Aside0.mk (KeepBut.trans (by repeat (first | (with_reducible first | exact HK.out | apply KeepBut.set_ | apply zx | apply zy | apply zw | refine zu ?_ GW195.out _ | refine zu ?_ GW206.out _) | exact HK.out)) hk (.inl rfl))
     have n6_ := Aside0.mk (hb)
     have n7_ := Aside0.mk (hi)
     clear zG
     clear zI
     clear zJ
     clear zH
     clear HK
     clear HB
     clear HI0
     have zG := n0_
     have zI := n1_
     have zJ := n2_
     have zH := n3_
     have zY := n4_
     have HK := n5_
     have HB := n6_
     have HI0 := n7_
     clear n0_ n1_ n2_ n3_ n4_ n5_ n6_ n7_
     (try clear hb)
     (try clear hb2)
     (try clear hk)
     (try clear hi)
     (try clear zP)
     obtain ⟨Ao23, co23, eo23⟩ := Kd.R_slice zG.out
     (first | subst eo23 | (injection eo23 with f1_ f2_ f3_; have f4_ := f1_.symm; have f5_ := f3_.symm; clear f1_ f2_ f3_; subst f4_; subst f5_))
     obtain ⟨Ao24, co24, eo24⟩ := Kd.S_slice zI.out
     (first | subst eo24 | (injection eo24 with f1_ f2_ f3_; have f4_ := f1_.symm; have f5_ := f3_.symm; clear f1_ f2_ f3_; subst f4_; subst f5_))
     obtain ⟨Ao25, co25, eo25⟩ := Kd.R_slice zY.out
     (first | subst eo25 | (injection eo25 with f1_ f2_ f3_; have f4_ := f1_.symm; have f5_ := f3_.symm; clear f1_ f2_ f3_; subst f4_; subst f5_))
     refine hK.out _ _ ⟨(zb zH.out 0).trans rfl, (zb zH.out 1).trans rfl⟩ (fun hHeld => ?_)
     clear hK K
     refine norm_ (a' := ?_) ?_ ?_
     rotate_left
     ·show Act.put _ (some 24) _ = _
      simp only [Act.put, List.setIfInBounds_toArray, List.set_cons_zero, List.set_cons_succ, zp, zq]
      rfl
     refine one_ (i := 4) (N := some 25) #[true, true, true, true, true, false] rfl rfl (by kernel_rfl) (by decide) (fun K hK => ?_)
     refine goes_ Try.func17 (by kernel_rfl) rfl #[.agg #[.slice Ao23 x207000_1.length co23, .slice Ao24 x207001_1.length co24], .int .i64 x5_1, .slice Ao25 t212.length co25] (by rfl) rfl rfl (by (try simp only [List.map_toArray, List.map_cons, List.map_nil]); first | done | rfl) ?_
     with_reducible refine (spec_DiskWrite.calls k1 _ _ x207000_1 _ _ x207001_1 x5_1 _ _ t212 t218 t221 _ ?side1 ?side2 ?side3 ?side4 ?side5 ?side6 A19.out).mono ?_
     (case side1 => repeat (first | exact (Kd.R_reads' zG.out).2.2 | (with_reducible refine Kd.C_alloc ?_ _) | (with_reducible refine Kd.C_drewN ?_ _) | (with_reducible refine Kd.C_drew ?_)))
     (case side2 => exact (Kd.R_reads' zG.out).2.1)
     (case side3 => repeat (first | exact (Kd.S_reads' zI.out).2.2 | (with_reducible refine Kd.C_alloc ?_ _) | (with_reducible refine Kd.C_drewN ?_ _) | (with_reducible refine Kd.C_drew ?_)))
     (case side4 => exact (Kd.S_reads' zI.out).2.1)
     (case side5 => repeat (first | exact (Kd.R_reads' zY.out).2.2 | (with_reducible refine Kd.C_alloc ?_ _) | (with_reducible refine Kd.C_drewN ?_ _) | (with_reducible refine Kd.C_drew ?_)))
     (case side6 => exact (Kd.R_reads' zY.out).2.1)
     rintro e w26 ⟨v219, v222, rfl, zP, zX, hb⟩
     refine ⟨_, rfl, ?_⟩
     have n0_ := Aside0.mk (Kd.R_elder' (RL zG.out) (Kd.R_base zP) hb)
     have n1_ := Aside0.mk (Kd.S_mono (Kd.S_told (Kd.S_told (Kd.S_old (SL zI.out) hb) (Kd.R_base zP)) (Kd.S_base zX)) (fun _ h_ => h_.1))
     have n2_ := Aside0.mk (Kd.R_elder' (RL zY.out) (Kd.R_base zP) hb)
     have n3_ := Aside0.mk (Kd.R_lower (Kd.R_new' (Kd.R_new' zP (Kd.R_lt (RL zG.out))) (Kd.R_lt (RL zY.out))) (keep_size (w := w) (g := g) (row := none) (by repeat (first | (with_reducible first | exact HK.out | apply KeepBut.set_ | apply zx | apply zy | apply zw | refine zu ?_ GW195.out _ | refine zu ?_ GW206.out _) | exact HK.out))))
     have n4_ := Aside0.mk (Kd.S_lower (Kd.S_new' (Kd.S_new' (Kd.S_new' zX (Kd.R_lt (RL zG.out))) (Kd.S_lt (SL zI.out))) (Kd.R_lt (RL zY.out))) (keep_size (w := w) (g := g) (row := none) (by repeat (first | (with_reducible first | exact HK.out | apply KeepBut.set_ | apply zx | apply zy | apply zw | refine zu ?_ GW195.out _ | refine zu ?_ GW206.out _) | exact HK.out))))
     have n5_ := Aside0.mk (zl (g := zN) (o := .cells #[.slice none 0 0, .slice none 0 0] 35 (0, 0)) (BL zJ.out) hb)
     have n6_ := Aside0.mk (zl (g := zK) (o := .cells #[.slice Ao23 x207000_1.length co23, .slice Ao24 x207001_1.length co24] 35 (0, 0)) (BL zH.out) hb)
     have n7_ := Aside0.mk (IsS93.below (by repeat (first | (with_reducible first | exact HI0.out | apply IsS93.alloc | apply IsS93.drewN | apply IsS93.drew | apply IsS93.set_1 | apply IsS93.set_2 | apply IsS93.set_3 | refine IsS93.far ?_ zM.out _ | refine IsS93.far ?_ zL.out _) | exact HI0.out)) hb)
     have n8_ := Aside0.mk (KeepBut.trans (by repeat (first | (with_reducible first | exact HK.out | apply KeepBut.set_ | apply zx | apply zy | apply zw | refine zu ?_ GW195.out _ | refine zu ?_ GW206.out _) | exact HK.out)) (KeepBut.of_below hb g none) (.inl rfl))
     have n9_ := Aside0.mk (belx_step (g := g) (w0 := w0) (by repeat (first | (with_reducible first | exact HB.out | apply belx_alloc | apply belx_drewN | apply belx_drew | refine belx_set ?_ zR.out | refine belx_set ?_ zS.out | apply belx_setg) | exact HB.out)) hb)
     clear zG
     clear zI
     clear zY
     clear zJ
     clear zH
     clear HI0
     clear HK
     clear HB
     have zG := n0_
     have zI := n1_
     have zY := n2_
     have zgb := n3_
     have zhb := n4_
     have zJ := n5_
     have zH := n6_
     have HI0 := n7_
     have HK := n8_
     have HB := n9_
     clear n0_ n1_ n2_ n3_ n4_ n5_ n6_ n7_ n8_ n9_
     (try clear hb)
     (try clear hb2)
     (try clear hk)
     (try clear hi)
     (try clear zP)
     (try clear zX)
     obtain ⟨Ao27, co27, eo27⟩ := Kd.R_slice zgb.out
     (first | subst eo27 | (injection eo27 with f1_ f2_ f3_; have f4_ := f1_.symm; have f5_ := f3_.symm; clear f1_ f2_ f3_; subst f4_; subst f5_))
     obtain ⟨Ao29, co29, eo29⟩ := Kd.S_slice zhb.out
     (first | subst eo29 | (injection eo29 with f1_ f2_ f3_; have f4_ := f1_.symm; have f5_ := f3_.symm; clear f1_ f2_ f3_; subst f4_; subst f5_))
     refine hK.out _ _ ⟨(zb zH.out 0).trans rfl, (zb zH.out 1).trans rfl⟩ (fun hHeld => ?_)
     clear hK K
     refine norm_ (a' := ?_) ?_ ?_
     rotate_left
     ·show Act.put _ (some 25) _ = _
      simp only [Act.put, List.setIfInBounds_toArray, List.set_cons_zero, List.set_cons_succ, zp, zq]
      rfl
     refine last_ (i := 5) (N := none) #[true, true, true, true, true, true] rfl rfl (by kernel_rfl) (by decide) (fun K hK => ?_)
     have hs28 : w26.cell? ⟨zK, 0, none⟩ = some (.slice Ao23 x207000_1.length co23) := (zb zH.out 0).trans rfl
     have hfs28 := zd zH.out 0
     have hns28_0 := zO.out
     have hms28_0 := zQ.out
     have hs30 : w26.cell? ⟨zK, 1, none⟩ = some (.slice Ao24 x207001_1.length co24) := (zb zH.out 1).trans rfl
     have hfs30 := zd zH.out 1
     have hns30_0 := zO.out
     have hms30_0 := zQ.out
     refine skip_ (w1 := ?_) (by rfl) rfl ?_ ?_
     rotate_left
     ·go_simp
      rfl
     refine hK.out _ _ ?_
     clear hK K
     refine done_ (by kernel_rfl) ?_
     try go_wp2
     go_roundg k1
     case measure => have := HK1.out; omega
     case rel => exact ⟨(wrap64 (x5_1 + 1)), (t215), (t216), (t217), (t218), (t221), (.slice Ao27 t218.length co27), (.slice Ao29 t221.length co29), (by first | rfl | (simp; done) | (simp [*]; done)), H', ⟨by have := HK1.out; omega⟩, ⟨RL (Kd.R_mono (Kd.R_far (p := ⟨zK, 1, none⟩) (Kd.R_far (p := ⟨zK, 0, none⟩) (Kd.R_types zgb.out zH.out (by decide)) (fun _ hk => hk.2) (.slice Ao27 t218.length co27)) (fun _ hk => hk.2) (.slice Ao29 t221.length co29)) (fun _ hk => trivial))⟩, ⟨SL (Kd.S_mono (Kd.S_far (p := ⟨zK, 1, none⟩) (Kd.S_far (p := ⟨zK, 0, none⟩) (Kd.S_types zhb.out zH.out (by decide)) (fun _ hk => hk.2) (.slice Ao27 t218.length co27)) (fun _ hk => hk.2) (.slice Ao29 t221.length co29)) (fun _ hk => hk.1.1.1.1))⟩, ⟨by (with_reducible repeat (first | refine zj ?_ _ | refine zg ?_ | refine zh ?_ _)); refine zE ?_ zO.out _; (with_reducible repeat (first | refine zj ?_ _ | refine zg ?_ | refine zh ?_ _)); refine zE ?_ zO.out _; (with_reducible repeat (first | refine zj ?_ _ | refine zg ?_ | refine zh ?_ _)); exact zJ.out⟩, ⟨by (with_reducible repeat (first | refine zj ?_ _ | refine zg ?_ | refine zh ?_ _)); refine zz (cs := #[.slice Ao27 t218.length co27, .slice Ao24 x207001_1.length co24]) ?_ 1 _ rfl; (with_reducible repeat (first | refine zj ?_ _ | refine zg ?_ | refine zh ?_ _)); refine zz (cs := #[.slice Ao23 x207000_1.length co23, .slice Ao24 x207001_1.length co24]) ?_ 0 _ rfl; (with_reducible repeat (first | refine zj ?_ _ | refine zg ?_ | refine zh ?_ _)); exact zH.out⟩, ⟨by repeat (first | (with_reducible first | exact HI0.out | apply IsS93.alloc | apply IsS93.drewN | apply IsS93.drew | apply IsS93.set_1 | apply IsS93.set_2 | apply IsS93.set_3 | refine IsS93.far ?_ zM.out _ | refine IsS93.far ?_ zL.out _) | exact HI0.out)⟩, ⟨by repeat (first | (with_reducible first | exact HK.out | apply KeepBut.set_ | apply zx | apply zy | apply zw | refine zu ?_ GW195.out _ | refine zu ?_ GW206.out _) | exact HK.out)⟩, ⟨by repeat (first | (with_reducible first | exact HB.out | apply belx_alloc | apply belx_drewN | apply belx_drew | refine belx_set ?_ zR.out | refine belx_set ?_ zS.out | apply belx_setg) | exact HB.out)⟩⟩
    ·rw [if_neg c17] at H
     have c17b0 : decide (0 < t208) = false := decide_eq_false c17
     clear c17
     have H' := Aside0.mk H
     clear H
     go_wp2_with (first | ((with_reducible refine zo (f := 36) rfl ?_); refine zC (some 19) rfl rfl Try.func36 (by kernel_rfl) rfl #[.pointer (some ⟨g, 0, none⟩), .int .i64 3] rfl (by (try simp only [List.map_toArray, List.map_cons, List.map_nil]); first | done | rfl) ?_; (with_reducible refine (spec_l1Next.calls g s0_0 x1001_1 x1002_1 x1003_1 3 t208 t209 t210 t211 w0 _ ?side1 ?side2 A16.out).mono ?_); (case side1 => exact IsS93.l HI0.out); (case side2 => exact bx HB.out); rintro e w31 ⟨rfl, hi, hb, hk⟩; refine ⟨_, rfl, ?_⟩; have n0_ := Aside0.mk (Kd.R_mono (Kd.R_keep (IsS93.apart (show IsS93 w0 _ g s0_0 x1001_1 x1002_1 x1003_1 from by exact IsS93.l HI0.out) (RL zG.out) (by decide)) hk (fun _ h => h.2)) (fun _ h => h.1)); have n1_ := Aside0.mk (Kd.S_mono (Kd.S_keep (IsS93.apartS (show IsS93 w0 _ g s0_0 x1001_1 x1002_1 x1003_1 from by exact IsS93.l HI0.out) (SL zI.out) (by decide)) hk (fun _ h => h.2)) (fun _ h => h.1)); have n2_ := Aside0.mk (KeepBut.blk hk (g' := zN) (o := .cells #[.slice none 0 0, .slice none 0 0] 35 (0, 0)) (BL zJ.out) zU.out (by simp)); have n3_ := Aside0.mk (KeepBut.blk hk (g' := zK) (o := .cells #[u207000, u207001] 35 (0, 0)) (BL zH.out) zT.out (by simp)); have n4_ := Aside0.mk (KeepBut.trans (by exact kx HK.out) hk (.inl rfl)); have n5_ := Aside0.mk (hb); have n6_ := Aside0.mk (hi); clear zG; clear zI; clear zJ; clear zH; clear HK; clear HB; clear HI0; have zG := n0_; have zI := n1_; have zJ := n2_; have zH := n3_; have HK := n4_; have HB := n5_; have HI0 := n6_; clear n0_ n1_ n2_ n3_ n4_ n5_ n6_; (try clear hb); (try clear hb2); (try clear hk); (try clear hi)))
     go_roundg k1
     case measure => have := HK1.out; omega
     case rel => exact ⟨(wrap64 (x5_1 + 1)), (t209), (t210), (t211), (x207000_1), (x207001_1), (u207000), (u207001), (by first | rfl | (simp; done) | (simp [*]; done)), H', ⟨by have := HK1.out; omega⟩, ⟨RL zG.out⟩, ⟨SL zI.out⟩, ⟨BL zJ.out⟩, ⟨BL zH.out⟩, ⟨by repeat (first | (with_reducible first | exact HI0.out | apply IsS93.alloc | apply IsS93.drewN | apply IsS93.drew | apply IsS93.set_1 | apply IsS93.set_2 | apply IsS93.set_3 | refine IsS93.far ?_ zM.out _ | refine IsS93.far ?_ zL.out _) | exact HI0.out)⟩, ⟨by repeat (first | (with_reducible first | exact HK.out | apply KeepBut.set_ | apply zx | apply zy | apply zw | refine zu ?_ GW195.out _ | refine zu ?_ GW206.out _) | exact HK.out)⟩, ⟨by repeat (first | (with_reducible first | exact HB.out | apply belx_alloc | apply belx_drewN | apply belx_drew | refine belx_set ?_ zR.out | refine belx_set ?_ zS.out | apply belx_setg) | exact HB.out)⟩⟩
   ·rw [if_neg c15] at H
    have c15b0 : decide (x5_1 < t207) = false := decide_eq_false c15
    clear c15
    replace H := Option.bind_eq_some_iff.mp H
    obtain ⟨⟨t224, t227⟩, A320, H⟩ := H
    replace H : ((spec_l1Next.f s0_0 x1001_1 x1002_1 x1003_1 (wrap64 (3 + x1003_1))).bind fun bt230 => (spec_l1DrawGood.l1 k1 t207 bt230.1 s0_0 bt230.2.1 bt230.2.2.1 bt230.2.2.2 t224 t227)) = some (r1, r2, r3, r4, r5) := H
    have A32 := Aside0.mk A320
    clear A320
    replace H := Option.bind_eq_some_iff.mp H
    obtain ⟨⟨t230, t231, t232, t233⟩, A330, H⟩ := H
    replace H : (spec_l1DrawGood.l1 k1 t207 t230 s0_0 t231 t232 t233 t224 t227) = some (r1, r2, r3, r4, r5) := H
    have A33 := Aside0.mk A330
    clear A330
    have H' := Aside0.mk H
    clear H
    have zLb := zQ.out
    have zMb := zO.out
    have zNb := zT.out
    have zOb := zL.out
    have zkb : wr.cell? ⟨zK, 0, none⟩ = some (u207000) := (zb zH.out 0).trans rfl
    have zlb : wr.cell? ⟨zK, 1, none⟩ = some (u207001) := (zb zH.out 1).trans rfl
    have zmb := zd zH.out 0
    have znb := zd zH.out 1
    obtain ⟨Ao37, co37, eo37⟩ := Kd.R_slice zG.out
    subst eo37
    obtain ⟨Ao38, co38, eo38⟩ := Kd.S_slice zI.out
    subst eo38
    go_wp2_with (first | ((with_reducible refine zo (f := 83) rfl ?_); refine zC (some 27) rfl rfl Try.func83 (by kernel_rfl) rfl #[.agg #[.slice Ao37 x207000_1.length co37, .slice Ao38 x207001_1.length co38]] rfl (by (try simp only [List.map_toArray, List.map_cons, List.map_nil]); first | done | rfl) ?_; (with_reducible refine (spec_DiskSync.calls k1 _ _ x207000_1 _ _ x207001_1 t224 t227 _ ?side1 ?side2 ?side3 ?side4 A32.out).mono ?_); (case side1 => repeat (first | exact (Kd.R_reads' zG.out).2.2 | (with_reducible refine Kd.C_alloc ?_ _) | (with_reducible refine Kd.C_drewN ?_ _) | (with_reducible refine Kd.C_drew ?_))); (case side2 => exact (Kd.R_reads' zG.out).2.1); (case side3 => repeat (first | exact (Kd.S_reads' zI.out).2.2 | (with_reducible refine Kd.C_alloc ?_ _) | (with_reducible refine Kd.C_drewN ?_ _) | (with_reducible refine Kd.C_drew ?_))); (case side4 => exact (Kd.S_reads' zI.out).2.1); rintro e w39 ⟨v225, v228, rfl, zP, zX, hb⟩; refine ⟨_, rfl, ?_⟩; have n0_ := Aside0.mk (Kd.R_elder' (RL zG.out) (Kd.R_base zP) hb); have n1_ := Aside0.mk (Kd.S_mono (Kd.S_told (Kd.S_told (Kd.S_old (SL zI.out) hb) (Kd.R_base zP)) (Kd.S_base zX)) (fun _ h_ => h_.1)); have n2_ := Aside0.mk (Kd.R_lower (Kd.R_new' zP (Kd.R_lt (RL zG.out))) (keep_size (w := w) (g := g) (row := none) (by exact kx HK.out))); have n3_ := Aside0.mk (Kd.S_lower (Kd.S_new' (Kd.S_new' zX (Kd.R_lt (RL zG.out))) (Kd.S_lt (SL zI.out))) (keep_size (w := w) (g := g) (row := none) (by exact kx HK.out))); have n4_ := Aside0.mk (zl (g := zN) (o := .cells #[.slice none 0 0, .slice none 0 0] 35 (0, 0)) (BL zJ.out) hb); have n5_ := Aside0.mk (zl (g := zK) (o := .cells #[.slice Ao37 x207000_1.length co37, .slice Ao38 x207001_1.length co38] 35 (0, 0)) (BL zH.out) hb); have n6_ := Aside0.mk (IsS93.below (by exact IsS93.l HI0.out) hb); have n7_ := Aside0.mk (KeepBut.trans (by exact kx HK.out) (KeepBut.of_below hb g none) (.inl rfl)); have n8_ := Aside0.mk (belx_step (g := g) (w0 := w0) (by exact bx HB.out) hb); clear zG; clear zI; clear zJ; clear zH; clear HI0; clear HK; clear HB; have zG := n0_; have zI := n1_; have zab := n2_; have zbb := n3_; have zJ := n4_; have zH := n5_; have HI0 := n6_; have HK := n7_; have HB := n8_; clear n0_ n1_ n2_ n3_ n4_ n5_ n6_ n7_ n8_; (try clear hb); (try clear hb2); (try clear hk); (try clear hi); (try clear zP); (try clear zX); obtain ⟨Ao40, co40, eo40⟩ := Kd.R_slice zab.out; subst eo40; have zob : w39.cell? ⟨zK, 0, none⟩ = some (.slice Ao37 x207000_1.length co37) := (zb zH.out 0).trans rfl; have zpb : w39.cell? ⟨zK, 1, none⟩ = some (.slice Ao38 x207001_1.length co38) := (zb zH.out 1).trans rfl; have zqb := zd zH.out 0; have zrb := zd zH.out 1; obtain ⟨Ao42, co42, eo42⟩ := Kd.S_slice zbb.out; subst eo42; obtain ⟨ASz43_0, cSz43_0, HGz43, hgz43, HSz43_0⟩ := HI0.out; have zsb := cellS93_0 HGz43; have ztb := cellS93_1 HGz43; have zub := cellS93_2 HGz43; have zvb := cellS93_3 HGz43; have zwb := zd HGz43 1; have zxb := zd HGz43 2; have zyb := zd HGz43 3; clear HGz43 hgz43) | ((with_reducible refine zo (f := 36) rfl ?_); refine zC (some 34) rfl rfl Try.func36 (by kernel_rfl) rfl #[.pointer (some ⟨g, 0, none⟩), .int .i64 (wrap64 (3 + x1003_1))] rfl (by (try simp only [List.map_toArray, List.map_cons, List.map_nil]); first | done | rfl) ?_; (with_reducible refine (spec_l1Next.calls g s0_0 x1001_1 x1002_1 x1003_1 (wrap64 (3 + x1003_1)) t230 t231 t232 t233 w0 _ ?side1 ?side2 A33.out).mono ?_); (case side1 => repeat (first | (with_reducible first | exact HI0.out | apply IsS93.alloc | apply IsS93.drewN | apply IsS93.drew | apply IsS93.set_1 | apply IsS93.set_2 | apply IsS93.set_3 | refine IsS93.far ?_ zM.out _ | refine IsS93.far ?_ zL.out _) | exact HI0.out)); (case side2 => repeat (first | (with_reducible first | exact HB.out | apply belx_alloc | apply belx_drewN | apply belx_drew | refine belx_set ?_ zR.out | refine belx_set ?_ zS.out | apply belx_setg) | exact HB.out)); rintro e w44 ⟨rfl, hi, hb, hk⟩; refine ⟨_, rfl, ?_⟩; have n0_ := Aside0.mk (Kd.R_mono (Kd.R_keep (IsS93.apart (show IsS93 w0 _ g s0_0 x1001_1 x1002_1 x1003_1 from by repeat (first | (with_reducible first | exact HI0.out | apply IsS93.alloc | apply IsS93.drewN | apply IsS93.drew | apply IsS93.set_1 | apply IsS93.set_2 | apply IsS93.set_3 | refine IsS93.far ?_ zM.out _ | refine IsS93.far ?_ zL.out _) | exact HI0.out)) (RL ((Kd.R_mono (Kd.R_far (p := ⟨zK, 1, none⟩) (Kd.R_far (p := ⟨zK, 0, none⟩) (Kd.R_types zG.out zH.out (by decide)) (fun _ hk => hk.2) (.slice Ao40 t224.length co40)) (fun _ hk => hk.2) (.slice Ao42 t227.length co42)) (fun _ h_ => h_.1)))) (by decide)) hk (fun _ h => h.2)) (fun _ h => h.1)); have n1_ := Aside0.mk (Kd.S_mono (Kd.S_keep (IsS93.apartS (show IsS93 w0 _ g s0_0 x1001_1 x1002_1 x1003_1 from by repeat (first | (with_reducible first | exact HI0.out | apply IsS93.alloc | apply IsS93.drewN | apply IsS93.drew | apply IsS93.set_1 | apply IsS93.set_2 | apply IsS93.set_3 | refine IsS93.far ?_ zM.out _ | refine IsS93.far ?_ zL.out _) | exact HI0.out)) (SL ((Kd.S_mono (Kd.S_far (p := ⟨zK, 1, none⟩) (Kd.S_far (p := ⟨zK, 0, none⟩) (Kd.S_types zI.out zH.out (by decide)) (fun _ hk => hk.2) (.slice Ao40 t224.length co40)) (fun _ hk => hk.2) (.slice Ao42 t227.length co42)) (fun _ h_ => h_.1)))) (by decide)) hk (fun _ h => h.2)) (fun _ h => h.1)); have n2_ := Aside0.mk (KeepBut.blk hk (g' := zN) (o := .cells #[.slice none 0 0, .slice none 0 0] 35 (0, 0)) (by (with_reducible repeat (first | refine zj ?_ _ | refine zg ?_ | refine zh ?_ _)); refine zE ?_ zO.out _; (with_reducible repeat (first | refine zj ?_ _ | refine zg ?_ | refine zh ?_ _)); refine zE ?_ zO.out _; (with_reducible repeat (first | refine zj ?_ _ | refine zg ?_ | refine zh ?_ _)); exact zJ.out) zU.out (by simp)); have n3_ := Aside0.mk (KeepBut.blk hk (g' := zK) (o := .cells #[.slice Ao40 t224.length co40, .slice Ao42 t227.length co42] 35 (0, 0)) (by (with_reducible repeat (first | refine zj ?_ _ | refine zg ?_ | refine zh ?_ _)); refine zz (cs := #[.slice Ao40 t224.length co40, .slice Ao38 x207001_1.length co38]) ?_ 1 _ rfl; (with_reducible repeat (first | refine zj ?_ _ | refine zg ?_ | refine zh ?_ _)); refine zz (cs := #[.slice Ao37 x207000_1.length co37, .slice Ao38 x207001_1.length co38]) ?_ 0 _ rfl; (with_reducible repeat (first | refine zj ?_ _ | refine zg ?_ | refine zh ?_ _)); exact zH.out) zT.out (by simp)); have n4_ := Aside0.mk (Kd.R_mono (Kd.R_keep (IsS93.apart (show IsS93 w0 _ g s0_0 x1001_1 x1002_1 x1003_1 from by repeat (first | (with_reducible first | exact HI0.out | apply IsS93.alloc | apply IsS93.drewN | apply IsS93.drew | apply IsS93.set_1 | apply IsS93.set_2 | apply IsS93.set_3 | refine IsS93.far ?_ zM.out _ | refine IsS93.far ?_ zL.out _) | exact HI0.out)) (RL ((Kd.R_mono (Kd.R_far (p := ⟨zK, 1, none⟩) (Kd.R_far (p := ⟨zK, 0, none⟩) (Kd.R_types zab.out zH.out (by decide)) (fun _ hk => hk.2) (.slice Ao40 t224.length co40)) (fun _ hk => hk.2) (.slice Ao42 t227.length co42)) (fun _ h_ => h_.1)))) (by decide)) hk (fun _ h => h.2)) (fun _ h => h.1)); have n5_ := Aside0.mk (Kd.S_mono (Kd.S_keep (IsS93.apartS (show IsS93 w0 _ g s0_0 x1001_1 x1002_1 x1003_1 from by repeat (first | (with_reducible first | exact HI0.out | apply IsS93.alloc | apply IsS93.drewN | apply IsS93.drew | apply IsS93.set_1 | apply IsS93.set_2 | apply IsS93.set_3 | refine IsS93.far ?_ zM.out _ | refine IsS93.far ?_ zL.out _) | exact HI0.out)) (SL ((Kd.S_mono (Kd.S_far (p := ⟨zK, 1, none⟩) (Kd.S_far (p := ⟨zK, 0, none⟩) (Kd.S_types zbb.out zH.out (by decide)) (fun _ hk => hk.2) (.slice Ao40 t224.length co40)) (fun _ hk => hk.2) (.slice Ao42 t227.length co42)) (fun _ h_ => h_.1)))) (by decide)) hk (fun _ h => h.2)) (fun _ h => h.1)); have n6_ := Aside0.mk (KeepBut.trans (by repeat (first | (with_reducible first | exact HK.out | apply KeepBut.set_ | apply zx | apply zy | apply zw | refine zu ?_ GW195.out _ | refine zu ?_ GW206.out _) | exact HK.out)) hk (.inl rfl)); have n7_ := Aside0.mk (hb); have n8_ := Aside0.mk (hi); clear zG; clear zI; clear zJ; clear zH; clear zab; clear zbb; clear HK; clear HB; clear HI0; have zG := n0_; have zI := n1_; have zJ := n2_; have zH := n3_; have zab := n4_; have zbb := n5_; have HK := n6_; have HB := n7_; have HI0 := n8_; clear n0_ n1_ n2_ n3_ n4_ n5_ n6_ n7_ n8_; (try clear hb); (try clear hb2); (try clear hk); (try clear hi)))
    go_loopg [6] k1 (fun kq v6 w' => ∃ (x6_2 : Int) (x1001_2 : Int) (x1002_2 : Int) (x1003_2 : Int) (x207000_2 : List Int) (x207001_2 : List (S45)) (u207000 : Value) (u207001 : Value), v6 = .int .i64 x6_2 ∧ Aside0 (spec_l1DrawGood.l1 kq t207 x6_2 s0_0 x1001_2 x1002_2 x1003_2 x207000_2 x207001_2 = some (r1, r2, r3, r4, r5)) ∧ Aside0 (kq ≤ k1) ∧ Aside0 (Kd.R (Kd.int .u8) 5 w' w.heap.size (fun _ => True) u207000 x207000_2) ∧ Aside0 (Kd.S k45 45 w' w.heap.size (fun k_ => some k_ ≠ (u207000 : Value).ownBlock) u207001 x207001_2) ∧ Aside0 (w'.heap[zN]? = some (.cells #[(.slice none 0 0), (.slice none 0 0)] 35 (0, 0))) ∧ Aside0 (w'.heap[zK]? = some (.cells #[u207000, u207001] 35 (0, 0))) ∧ Aside0 (IsS93 w0 w' g s0_0 x1001_2 x1002_2 x1003_2) ∧ Aside0 (KeepBut w w' g none) ∧ Aside0 (BelX g w0 w'))
    case atStart => exact ⟨(t230), (t231), (t232), (t233), (t224), (t227), (.slice Ao40 t224.length co40), (.slice Ao42 t227.length co42), (by first | rfl | (simp; done) | (simp [*]; done)), H', ⟨Nat.le_refl _⟩, ⟨RL (Kd.R_mono zab.out (fun _ hk => trivial))⟩, ⟨SL (Kd.S_mono zbb.out (fun _ hk => hk.1.1))⟩, ⟨BL zJ.out⟩, ⟨BL zH.out⟩, ⟨by repeat (first | (with_reducible first | exact HI0.out | apply IsS93.alloc | apply IsS93.drewN | apply IsS93.drew | apply IsS93.set_1 | apply IsS93.set_2 | apply IsS93.set_3 | refine IsS93.far ?_ zM.out _ | refine IsS93.far ?_ zL.out _) | exact HI0.out)⟩, ⟨by repeat (first | (with_reducible first | exact HK.out | apply KeepBut.set_ | apply zx | apply zy | apply zw | refine zu ?_ GW195.out _ | refine zu ?_ GW206.out _) | exact HK.out)⟩, ⟨by repeat (first | (with_reducible first | exact HB.out | apply belx_alloc | apply belx_drewN | apply belx_drew | refine belx_set ?_ zR.out | refine belx_set ?_ zS.out | apply belx_setg) | exact HB.out)⟩⟩
    case round =>
     clear H'
     try clear c1
     try clear p2
     try clear c3
     try clear c6
     try clear p6
     try clear c8
     try clear c10
     try clear c11
     try clear c15
     try clear c15b0
     try clear c17
     try clear c17b0
     try clear c34
     try clear c35
     try clear c36
     try clear c37
     try clear c38
     try clear zcb
     try clear zdb
     try clear zkb
     try clear zlb
     try clear zob
     try clear zpb
     try clear zsb
     try clear ztb
     try clear zub
     try clear zvb
     try clear zeb
     try clear zfb
     try clear zmb
     try clear znb
     try clear zqb
     try clear zrb
     try clear zwb
     try clear zxb
     try clear zyb
     try clear p2
     try clear p6
     obtain ⟨x6_2, x1001_2, x1002_2, x1003_2, x207000_2, x207001_2, u207000, u207001, rfl, HA, HK2, zG, zI, zJ, zH, HI0, HK, HB⟩ := hrel
     cases gk with
     | zero => exact absurd HA.out (by simp [spec_l1DrawGood.l1])
     | succ k2 =>
      have H := HA.out
      clear HA
      simp only [spec_l1DrawGood.l1] at H
      by_cases c45 : x6_2 > 0
      ·rw [if_pos c45] at H
       have c45b0 : decide (0 < x6_2) = true := decide_eq_true c45
       clear c45
       replace H := Option.bind_eq_some_iff.mp H
       obtain ⟨⟨t234, t235, t236, t237⟩, A460, H⟩ := H
       replace H : ((spec_l1Fill.f k2 s0_0 t235 t236 t237).bind fun bt238 => ((spec_DiskWrite.f k2 x207000_2 x207001_2 t234 bt238.1).bind fun bt244 => (spec_l1DrawGood.l1 k2 t207 (wrap64 (x6_2 - 1)) s0_0 bt238.2.1 bt238.2.2.1 bt238.2.2.2 bt244.1 bt244.2))) = some (r1, r2, r3, r4, r5) := H
       have A46 := Aside0.mk A460
       clear A460
       replace H := Option.bind_eq_some_iff.mp H
       obtain ⟨⟨t238, t241, t242, t243⟩, A470, H⟩ := H
       replace H : ((spec_DiskWrite.f k2 x207000_2 x207001_2 t234 t238).bind fun bt244 => (spec_l1DrawGood.l1 k2 t207 (wrap64 (x6_2 - 1)) s0_0 t241 t242 t243 bt244.1 bt244.2)) = some (r1, r2, r3, r4, r5) := H
       have A47 := Aside0.mk A470
       clear A470
       replace H := Option.bind_eq_some_iff.mp H
       obtain ⟨⟨t244, t247⟩, A480, H⟩ := H
       replace H : (spec_l1DrawGood.l1 k2 t207 (wrap64 (x6_2 - 1)) s0_0 t241 t242 t243 t244 t247) = some (r1, r2, r3, r4, r5) := H
       have A48 := Aside0.mk A480
       clear A480
       have H' := Aside0.mk H
       clear H
       try go_wp2
       have n0_ := Aside0.mk (Kd.R_drew zG.out)
       have n1_ := Aside0.mk (Kd.S_drew zI.out)
       have n2_ := Aside0.mk (zg zJ.out)
       have n3_ := Aside0.mk (zg zH.out)
       have n4_ := Aside0.mk (IsS93.drew HI0.out)
       have n5_ := Aside0.mk (zy HK.out)
       have n6_ := Aside0.mk (belx_drew HB.out)
       clear zG
       clear zI
       clear zJ
       clear zH
       clear HI0
       clear HK
       clear HB
       have zG := n0_
       have zI := n1_
       have zJ := n2_
       have zH := n3_
       have HI0 := n4_
       have HK := n5_
       have HB := n6_
       clear n0_ n1_ n2_ n3_ n4_ n5_ n6_
       refine start_ (n := 8) (S := fun w' => w'.cell? ⟨zK, 0, none⟩ = some (u207000) ∧ w'.cell? ⟨zK, 1, none⟩ = some (u207001)) (ds := [7]) #[false, false, false, false, false, false, false, false] (by kernel_rfl) rfl rfl ⟨(zb zH.out 0).trans rfl, (zb zH.out 1).trans rfl⟩ (fun hHeld => ?_); refine with_tabW spec_l1DrawGood.tab12 spec_l1DrawGood.bits12 (fun HT_ HW_ => ?_)
       generalize wr.drew = w49 at zG zI zJ zH HI0 HK HB hHeld ⊢
       refine zA (i := 1) (N := some 40) (v := ?_) (a' := ?_) #[false, true, false, false, false, false, false, false] rfl rfl (zB HT_.out (by kernel_rfl)) (fun _ _ _ h => h) (Or.inl ⟨by rfl, ?_⟩) ?_ ?_
       rotate_left
       ·intro w'
        go_simp
        with_reducible rfl
       rotate_left
       ·simp only [Act.put, List.setIfInBounds_toArray, List.set_cons_zero, List.set_cons_succ, zp, zq]
        rfl
       refine zA (i := 2) (N := some 41) (v := ?_) (a' := ?_) #[false, true, true, false, false, false, false, false] rfl rfl (zB HT_.out (by kernel_rfl)) (fun _ _ _ h => h) (Or.inl ⟨by rfl, ?_⟩) ?_ ?_
       rotate_left
       ·intro w'
        go_simp
        with_reducible rfl
       rotate_left
       ·simp only [Act.put, List.setIfInBounds_toArray, List.set_cons_zero, List.set_cons_succ, zp, zq]
        rfl
       refine zA (i := 4) (N := some 43) (v := ?_) (a' := ?_) #[false, true, true, false, true, false, false, false] rfl rfl (zB HT_.out (by kernel_rfl)) (fun _ _ _ h => h) (Or.inl ⟨by rfl, ?_⟩) ?_ ?_
       rotate_left
       ·intro w'
        go_simp
        with_reducible rfl
       rotate_left
       ·simp only [Act.put, List.setIfInBounds_toArray, List.set_cons_zero, List.set_cons_succ, zp, zq]
        rfl
       refine take_ (i := 0) (N := some 39) (v := ?_) (a' := ?_) #[true, true, true, false, true, false, false, false] rfl rfl (take_ofW HT_.out HW_.out (by kernel_rfl)) (fun _ _ _ h => h) (Or.inl ⟨by rfl, ?_⟩) hHeld ?_ ?_
       rotate_left
       ·rintro w' ⟨s0, s1⟩
        go_simp
        with_reducible rfl
       rotate_left
       ·simp only [Act.put, List.setIfInBounds_toArray, List.set_cons_zero, List.set_cons_succ, zp, zq]
        rfl
       refine one_ (i := 3) (N := some 42) #[true, true, true, true, true, false, false, false] rfl rfl (one_of HT_.out (by kernel_rfl)) (by decide) (fun K hK => ?_)
       refine goes_ Try.func36 (by kernel_rfl) rfl #[.pointer (some ⟨g, 0, none⟩), .int .i64 t207] (by rfl) rfl rfl (by (try simp only [List.map_toArray, List.map_cons, List.map_nil]); first | done | rfl) ?_
       with_reducible refine (spec_l1Next.calls g s0_0 x1001_2 x1002_2 x1003_2 t207 t234 t235 t236 t237 w0 _ ?side1 ?side2 A46.out).mono ?_
       (case side1 => repeat (first | (with_reducible first | exact HI0.out | apply IsS93.alloc | apply IsS93.drewN | apply IsS93.drew | apply IsS93.set_1 | apply IsS93.set_2 | apply IsS93.set_3 | refine IsS93.far ?_ zM.out _ | refine IsS93.far ?_ zL.out _) | exact HI0.out))
       (case side2 => repeat (first | (with_reducible first | exact HB.out | apply belx_alloc | apply belx_drewN | apply belx_drew | refine belx_set ?_ zR.out | refine belx_set ?_ zS.out | apply belx_setg) | exact HB.out))
       rintro e w50 ⟨rfl, hi, hb, hk⟩
       refine ⟨_, rfl, ?_⟩
       have n0_ := Aside0.mk (Kd.R_mono (Kd.R_keep (IsS93.apart (show IsS93 w0 _ g s0_0 x1001_2 x1002_2 x1003_2 from by repeat (first | (with_reducible first | exact HI0.out | apply IsS93.alloc | apply IsS93.drewN | apply IsS93.drew | apply IsS93.set_1 | apply IsS93.set_2 | apply IsS93.set_3 | refine IsS93.far ?_ zM.out _ | refine IsS93.far ?_ zL.out _) | exact HI0.out)) (RL zG.out) (by decide)) hk (fun _ h => h.2)) (fun _ h => h.1))
       have n1_ := Aside0.mk (Kd.S_mono (Kd.S_keep (IsS93.apartS (show IsS93 w0 _ g s0_0 x1001_2 x1002_2 x1003_2 from by repeat (first | (with_reducible first | exact HI0.out | apply IsS93.alloc | apply IsS93.drewN | apply IsS93.drew | apply IsS93.set_1 | apply IsS93.set_2 | apply IsS93.set_3 | refine IsS93.far ?_ zM.out _ | refine IsS93.far ?_ zL.out _) | exact HI0.out)) (SL zI.out) (by decide)) hk (fun _ h => h.2)) (fun _ h => h.1))
       have n2_ := Aside0.mk (KeepBut.blk hk (g' := zN) (o := .cells #[.slice none 0 0, .slice none 0 0] 35 (0, 0)) (BL zJ.out) zU.out (by simp))
       have n3_ := Aside0.mk (KeepBut.blk hk (g' := zK) (o := .cells #[u207000, u207001] 35 (0, 0)) (BL zH.out) zT.out (by simp))
       have n4_ := Aside0.mk (KeepBut.trans (by repeat (first | (with_reducible first | exact HK.out | apply KeepBut.set_ | apply zx | apply zy | apply zw | refine zu ?_ GW195.out _ | refine zu ?_ GW206.out _) | exact HK.out)) hk (.inl rfl))
       have n5_ := Aside0.mk (hb)
       have n6_ := Aside0.mk (hi)
       clear zG
       clear zI
       clear zJ
       clear zH
       clear HK
       clear HB
       clear HI0
       have zG := n0_
       have zI := n1_
       have zJ := n2_
       have zH := n3_
       have HK := n4_
       have HB := n5_
       have HI0 := n6_
       clear n0_ n1_ n2_ n3_ n4_ n5_ n6_
       (try clear hb)
       (try clear hb2)
       (try clear hk)
       (try clear hi)
       refine hK.out _ _ ⟨(zb zH.out 0).trans rfl, (zb zH.out 1).trans rfl⟩ (fun hHeld => ?_)
       clear hK K
       refine norm_ (a' := ?_) ?_ ?_
       rotate_left
       ·show Act.put _ (some 42) _ = _
        simp only [Act.put, List.setIfInBounds_toArray, List.set_cons_zero, List.set_cons_succ, zp, zq]
        rfl
       refine one_ (i := 5) (N := some 44) #[true, true, true, true, true, true, false, false] rfl rfl (one_of HT_.out (by kernel_rfl)) (by decide) (fun K hK => ?_)
       refine goes_ Try.func38 (by kernel_rfl) rfl #[.pointer (some ⟨g, 0, none⟩)] (by rfl) rfl rfl (by (try simp only [List.map_toArray, List.map_cons, List.map_nil]); first | done | rfl) ?_
       with_reducible refine (spec_l1Fill.calls k2 g s0_0 t235 t236 t237 t238 t241 t242 t243 w0 _ ?side1 ?side2 A47.out).mono ?_
       (case side1 => repeat (first | (with_reducible first | exact HI0.out | apply IsS93.alloc | apply IsS93.drewN | apply IsS93.drew | apply IsS93.set_1 | apply IsS93.set_2 | apply IsS93.set_3 | refine IsS93.far ?_ zM.out _ | refine IsS93.far ?_ zL.out _) | exact HI0.out))
       (case side2 => repeat (first | (with_reducible first | exact HB.out | apply belx_alloc | apply belx_drewN | apply belx_drew | refine belx_set ?_ zR.out | refine belx_set ?_ zS.out | apply belx_setg) | exact HB.out))
       rintro e w51 ⟨v239, rfl, zP, hi, hb, hk⟩
       refine ⟨_, rfl, ?_⟩
       have n0_ := Aside0.mk (Kd.R_mono (Kd.R_told (Kd.R_oldK (IsS93.apart (show IsS93 w0 _ g s0_0 t235 t236 t237 from by repeat (first | (with_reducible first | exact HI0.out | apply IsS93.alloc | apply IsS93.drewN | apply IsS93.drew | apply IsS93.set_1 | apply IsS93.set_2 | apply IsS93.set_3 | refine IsS93.far ?_ zM.out _ | refine IsS93.far ?_ zL.out _) | exact HI0.out)) (RL zG.out) (by decide)) hk) (Kd.R_base zP)) (fun _ h_ => h_.1))
       have n1_ := Aside0.mk (Kd.S_mono (Kd.S_told (Kd.S_oldK (IsS93.apartS (show IsS93 w0 _ g s0_0 t235 t236 t237 from by repeat (first | (with_reducible first | exact HI0.out | apply IsS93.alloc | apply IsS93.drewN | apply IsS93.drew | apply IsS93.set_1 | apply IsS93.set_2 | apply IsS93.set_3 | refine IsS93.far ?_ zM.out _ | refine IsS93.far ?_ zL.out _) | exact HI0.out)) (SL zI.out) (by decide)) hk) (Kd.R_base zP)) (fun _ h_ => h_.1))
       have n2_ := Aside0.mk (KeepBut.blk hk (g' := zN) (o := .cells #[.slice none 0 0, .slice none 0 0] 35 (0, 0)) (BL zJ.out) zU.out (by simp))
       have n3_ := Aside0.mk (KeepBut.blk hk (g' := zK) (o := .cells #[u207000, u207001] 35 (0, 0)) (BL zH.out) zT.out (by simp))
       have n4_ := Aside0.mk (Kd.R_lower (Kd.R_new' zP (Kd.R_lt (RL zG.out))) (keep_size (w := w) (g := g) (row := none) (by repeat (first | (with_reducible first | exact HK.out | apply KeepBut.set_ | apply zx | apply zy | apply zw | refine zu ?_ GW195.out _ | refine zu ?_ GW206.out _) | exact HK.out))))
       have n5_ := Aside0.mk (KeepBut.trans (by repeat (first | (with_reducible first | exact HK.out | apply KeepBut.set_ | apply zx | apply zy | apply zw | refine zu ?_ GW195.out _ | refine zu ?_ GW206.out _) | exact HK.out)) hk (.inl rfl))
       have n6_ := Aside0.mk (hb)
       have n7_ := Aside0.mk (hi)
       clear zG
       clear zI
       clear zJ
       clear zH
       clear HK
       clear HB
       clear HI0
       have zG := n0_
       have zI := n1_
       have zJ := n2_
       have zH := n3_
       have zZ := n4_
       have HK := n5_
       have HB := n6_
       have HI0 := n7_
       clear n0_ n1_ n2_ n3_ n4_ n5_ n6_ n7_
       (try clear hb)
       (try clear hb2)
       (try clear hk)
       (try clear hi)
       (try clear zP)
       obtain ⟨Ao52, co52, eo52⟩ := Kd.R_slice zG.out
       (first | subst eo52 | (injection eo52 with f1_ f2_ f3_; have f4_ := f1_.symm; have f5_ := f3_.symm; clear f1_ f2_ f3_; subst f4_; subst f5_))
       obtain ⟨Ao53, co53, eo53⟩ := Kd.S_slice zI.out
       (first | subst eo53 | (injection eo53 with f1_ f2_ f3_; have f4_ := f1_.symm; have f5_ := f3_.symm; clear f1_ f2_ f3_; subst f4_; subst f5_))
       obtain ⟨Ao54, co54, eo54⟩ := Kd.R_slice zZ.out
       (first | subst eo54 | (injection eo54 with f1_ f2_ f3_; have f4_ := f1_.symm; have f5_ := f3_.symm; clear f1_ f2_ f3_; subst f4_; subst f5_))
       refine hK.out _ _ ⟨(zb zH.out 0).trans rfl, (zb zH.out 1).trans rfl⟩ (fun hHeld => ?_)
       clear hK K
       refine norm_ (a' := ?_) ?_ ?_
       rotate_left
       ·show Act.put _ (some 44) _ = _
        simp only [Act.put, List.setIfInBounds_toArray, List.set_cons_zero, List.set_cons_succ, zp, zq]
        rfl
       refine one_ (i := 6) (N := some 45) #[true, true, true, true, true, true, true, false] rfl rfl (one_of HT_.out (by kernel_rfl)) (by decide) (fun K hK => ?_)
       refine goes_ Try.func17 (by kernel_rfl) rfl #[.agg #[.slice Ao52 x207000_2.length co52, .slice Ao53 x207001_2.length co53], .int .i64 t234, .slice Ao54 t238.length co54] (by rfl) rfl rfl (by (try simp only [List.map_toArray, List.map_cons, List.map_nil]); first | done | rfl) ?_
       with_reducible refine (spec_DiskWrite.calls k2 _ _ x207000_2 _ _ x207001_2 t234 _ _ t238 t244 t247 _ ?side1 ?side2 ?side3 ?side4 ?side5 ?side6 A48.out).mono ?_
       (case side1 => repeat (first | exact (Kd.R_reads' zG.out).2.2 | (with_reducible refine Kd.C_alloc ?_ _) | (with_reducible refine Kd.C_drewN ?_ _) | (with_reducible refine Kd.C_drew ?_)))
       (case side2 => exact (Kd.R_reads' zG.out).2.1)
       (case side3 => repeat (first | exact (Kd.S_reads' zI.out).2.2 | (with_reducible refine Kd.C_alloc ?_ _) | (with_reducible refine Kd.C_drewN ?_ _) | (with_reducible refine Kd.C_drew ?_)))
       (case side4 => exact (Kd.S_reads' zI.out).2.1)
       (case side5 => repeat (first | exact (Kd.R_reads' zZ.out).2.2 | (with_reducible refine Kd.C_alloc ?_ _) | (with_reducible refine Kd.C_drewN ?_ _) | (with_reducible refine Kd.C_drew ?_)))
       (case side6 => exact (Kd.R_reads' zZ.out).2.1)
       rintro e w55 ⟨v245, v248, rfl, zP, zX, hb⟩
       refine ⟨_, rfl, ?_⟩
       have n0_ := Aside0.mk (Kd.R_elder' (RL zG.out) (Kd.R_base zP) hb)
       have n1_ := Aside0.mk (Kd.S_mono (Kd.S_told (Kd.S_told (Kd.S_old (SL zI.out) hb) (Kd.R_base zP)) (Kd.S_base zX)) (fun _ h_ => h_.1))
       have n2_ := Aside0.mk (Kd.R_elder' (RL zZ.out) (Kd.R_base zP) hb)
       have n3_ := Aside0.mk (Kd.R_lower (Kd.R_new' (Kd.R_new' zP (Kd.R_lt (RL zG.out))) (Kd.R_lt (RL zZ.out))) (keep_size (w := w) (g := g) (row := none) (by repeat (first | (with_reducible first | exact HK.out | apply KeepBut.set_ | apply zx | apply zy | apply zw | refine zu ?_ GW195.out _ | refine zu ?_ GW206.out _) | exact HK.out))))
       have n4_ := Aside0.mk (Kd.S_lower (Kd.S_new' (Kd.S_new' (Kd.S_new' zX (Kd.R_lt (RL zG.out))) (Kd.S_lt (SL zI.out))) (Kd.R_lt (RL zZ.out))) (keep_size (w := w) (g := g) (row := none) (by repeat (first | (with_reducible first | exact HK.out | apply KeepBut.set_ | apply zx | apply zy | apply zw | refine zu ?_ GW195.out _ | refine zu ?_ GW206.out _) | exact HK.out))))
       have n5_ := Aside0.mk (zl (g := zN) (o := .cells #[.slice none 0 0, .slice none 0 0] 35 (0, 0)) (BL zJ.out) hb)
       have n6_ := Aside0.mk (zl (g := zK) (o := .cells #[.slice Ao52 x207000_2.length co52, .slice Ao53 x207001_2.length co53] 35 (0, 0)) (BL zH.out) hb)
       have n7_ := Aside0.mk (IsS93.below (by repeat (first | (with_reducible first | exact HI0.out | apply IsS93.alloc | apply IsS93.drewN | apply IsS93.drew | apply IsS93.set_1 | apply IsS93.set_2 | apply IsS93.set_3 | refine IsS93.far ?_ zM.out _ | refine IsS93.far ?_ zL.out _) | exact HI0.out)) hb)
       have n8_ := Aside0.mk (KeepBut.trans (by repeat (first | (with_reducible first | exact HK.out | apply KeepBut.set_ | apply zx | apply zy | apply zw | refine zu ?_ GW195.out _ | refine zu ?_ GW206.out _) | exact HK.out)) (KeepBut.of_below hb g none) (.inl rfl))
       have n9_ := Aside0.mk (belx_step (g := g) (w0 := w0) (by repeat (first | (with_reducible first | exact HB.out | apply belx_alloc | apply belx_drewN | apply belx_drew | refine belx_set ?_ zR.out | refine belx_set ?_ zS.out | apply belx_setg) | exact HB.out)) hb)
       clear zG
       clear zI
       clear zZ
       clear zJ
       clear zH
       clear HI0
       clear HK
       clear HB
       have zG := n0_
       have zI := n1_
       have zZ := n2_
       have zib := n3_
       have zjb := n4_
       have zJ := n5_
       have zH := n6_
       have HI0 := n7_
       have HK := n8_
       have HB := n9_
       clear n0_ n1_ n2_ n3_ n4_ n5_ n6_ n7_ n8_ n9_
       (try clear hb)
       (try clear hb2)
       (try clear hk)
       (try clear hi)
       (try clear zP)
       (try clear zX)
       obtain ⟨Ao56, co56, eo56⟩ := Kd.R_slice zib.out
       (first | subst eo56 | (injection eo56 with f1_ f2_ f3_; have f4_ := f1_.symm; have f5_ := f3_.symm; clear f1_ f2_ f3_; subst f4_; subst f5_))
       obtain ⟨Ao58, co58, eo58⟩ := Kd.S_slice zjb.out
       (first | subst eo58 | (injection eo58 with f1_ f2_ f3_; have f4_ := f1_.symm; have f5_ := f3_.symm; clear f1_ f2_ f3_; subst f4_; subst f5_))
       refine hK.out _ _ ⟨(zb zH.out 0).trans rfl, (zb zH.out 1).trans rfl⟩ (fun hHeld => ?_)
       clear hK K
       refine norm_ (a' := ?_) ?_ ?_
       rotate_left
       ·show Act.put _ (some 45) _ = _
        simp only [Act.put, List.setIfInBounds_toArray, List.set_cons_zero, List.set_cons_succ, zp, zq]
        rfl
       refine last_ (i := 7) (N := none) #[true, true, true, true, true, true, true, true] rfl rfl (one_of HT_.out (by kernel_rfl)) (by decide) (fun K hK => ?_)
       have hs57 : w55.cell? ⟨zK, 0, none⟩ = some (.slice Ao52 x207000_2.length co52) := (zb zH.out 0).trans rfl
       have hfs57 := zd zH.out 0
       have hns57_0 := zO.out
       have hms57_0 := zQ.out
       have hs59 : w55.cell? ⟨zK, 1, none⟩ = some (.slice Ao53 x207001_2.length co53) := (zb zH.out 1).trans rfl
       have hfs59 := zd zH.out 1
       have hns59_0 := zO.out
       have hms59_0 := zQ.out
       refine skip_ (w1 := ?_) (by rfl) rfl ?_ ?_
       rotate_left
       ·go_simp
        rfl
       refine hK.out _ _ ?_
       clear hK K
       refine done_ (done_of HT_.out (by kernel_rfl)) ?_
       try go_wp2
       go_roundg k2
       case measure => have := HK1.out; have := HK2.out; omega
       case rel => exact ⟨(wrap64 (x6_2 - 1)), (t241), (t242), (t243), (t244), (t247), (.slice Ao56 t244.length co56), (.slice Ao58 t247.length co58), (by first | rfl | (simp; done) | (simp [*]; done)), H', ⟨by have := HK1.out; have := HK2.out; omega⟩, ⟨RL (Kd.R_mono (Kd.R_far (p := ⟨zK, 1, none⟩) (Kd.R_far (p := ⟨zK, 0, none⟩) (Kd.R_types zib.out zH.out (by decide)) (fun _ hk => hk.2) (.slice Ao56 t244.length co56)) (fun _ hk => hk.2) (.slice Ao58 t247.length co58)) (fun _ hk => trivial))⟩, ⟨SL (Kd.S_mono (Kd.S_far (p := ⟨zK, 1, none⟩) (Kd.S_far (p := ⟨zK, 0, none⟩) (Kd.S_types zjb.out zH.out (by decide)) (fun _ hk => hk.2) (.slice Ao56 t244.length co56)) (fun _ hk => hk.2) (.slice Ao58 t247.length co58)) (fun _ hk => hk.1.1.1.1))⟩, ⟨by (with_reducible repeat (first | refine zj ?_ _ | refine zg ?_ | refine zh ?_ _)); refine zE ?_ zO.out _; (with_reducible repeat (first | refine zj ?_ _ | refine zg ?_ | refine zh ?_ _)); refine zE ?_ zO.out _; (with_reducible repeat (first | refine zj ?_ _ | refine zg ?_ | refine zh ?_ _)); exact zJ.out⟩, ⟨by (with_reducible repeat (first | refine zj ?_ _ | refine zg ?_ | refine zh ?_ _)); refine zz (cs := #[.slice Ao56 t244.length co56, .slice Ao53 x207001_2.length co53]) ?_ 1 _ rfl; (with_reducible repeat (first | refine zj ?_ _ | refine zg ?_ | refine zh ?_ _)); refine zz (cs := #[.slice Ao52 x207000_2.length co52, .slice Ao53 x207001_2.length co53]) ?_ 0 _ rfl; (with_reducible repeat (first | refine zj ?_ _ | refine zg ?_ | refine zh ?_ _)); exact zH.out⟩, ⟨by repeat (first | (with_reducible first | exact HI0.out | apply IsS93.alloc | apply IsS93.drewN | apply IsS93.drew | apply IsS93.set_1 | apply IsS93.set_2 | apply IsS93.set_3 | refine IsS93.far ?_ zM.out _ | refine IsS93.far ?_ zL.out _) | exact HI0.out)⟩, ⟨by repeat (first | (with_reducible first | exact HK.out | apply KeepBut.set_ | apply zx | apply zy | apply zw | refine zu ?_ GW195.out _ | refine zu ?_ GW206.out _) | exact HK.out)⟩, ⟨by repeat (first | (with_reducible first | exact HB.out | apply belx_alloc | apply belx_drewN | apply belx_drew | refine belx_set ?_ zR.out | refine belx_set ?_ zS.out | apply belx_setg) | exact HB.out)⟩⟩
      ·rw [if_neg c45] at H
       have c45b0 : decide (0 < x6_2) = false := decide_eq_false c45
       clear c45
       simp only [Option.some.injEq, Prod.mk.injEq] at H
       obtain ⟨rfl, rfl, rfl, rfl, rfl⟩ := H
       have zPb := zQ.out
       have zQb := zO.out
       have zRb := zT.out
       have zSb := zL.out
       have zzb : wr.cell? ⟨zK, 0, none⟩ = some (u207000) := (zb zH.out 0).trans rfl
       have zAb : wr.cell? ⟨zK, 1, none⟩ = some (u207001) := (zb zH.out 1).trans rfl
       have zBb := zd zH.out 0
       have zCb := zd zH.out 1
       obtain ⟨Ao63, co63, eo63⟩ := Kd.R_slice zG.out
       subst eo63
       have zTb := zU.out
       have zUb := zM.out
       have zDb : wr.cell? ⟨zN, 0, none⟩ = some (.slice none 0 0) := (zb zJ.out 0).trans rfl
       have zEb : wr.cell? ⟨zN, 1, none⟩ = some (.slice none 0 0) := (zb zJ.out 1).trans rfl
       have zFb := zd zJ.out 0
       have zGb := zd zJ.out 1
       obtain ⟨Ao66, co66, eo66⟩ := Kd.S_slice zI.out
       subst eo66
       go_wp2
       refine bodyPost_ret (results_cell_row rfl _ _ zN 35 #[.slice Ao63 x207000_2.length co63, .slice Ao66 x207001_2.length co66] (0, 0) _ rfl (by (with_reducible repeat (first | refine zj ?_ _ | refine zg ?_ | refine zh ?_ _)); refine zz (cs := #[.slice Ao63 x207000_2.length co63, .slice none 0 0]) ?_ 1 _ rfl; (with_reducible repeat (first | refine zj ?_ _ | refine zg ?_ | refine zh ?_ _)); refine zz (cs := #[.slice none 0 0, .slice none 0 0]) ?_ 0 _ rfl; (with_reducible repeat (first | refine zj ?_ _ | refine zg ?_ | refine zh ?_ _)); exact zJ.out) Try.underlying35 rfl (by kernel_rfl)) rfl ?_
       exact ⟨_, _, by first | rfl | (simp [errW_none, errW_some] <;> rfl) | (simp [*, errW_none, errW_some] <;> rfl), RL (Kd.R_mono (Kd.R_far (p := ⟨zN, 1, none⟩) (Kd.R_far (p := ⟨zN, 0, none⟩) (Kd.R_types zG.out zJ.out (by decide)) (fun _ hk => hk.2) (.slice Ao63 x207000_2.length co63)) (fun _ hk => hk.2) (.slice Ao66 x207001_2.length co66)) (fun _ hk => trivial)), SL (Kd.S_mono (Kd.S_far (p := ⟨zN, 1, none⟩) (Kd.S_far (p := ⟨zN, 0, none⟩) (Kd.S_types zI.out zJ.out (by decide)) (fun _ hk => hk.2) (.slice Ao63 x207000_2.length co63)) (fun _ hk => hk.2) (.slice Ao66 x207001_2.length co66)) (fun _ hk => hk.1)), by repeat (first | (with_reducible first | exact HI0.out | apply IsS93.alloc | apply IsS93.drewN | apply IsS93.drew | apply IsS93.set_1 | apply IsS93.set_2 | apply IsS93.set_3 | refine IsS93.far ?_ zM.out _ | refine IsS93.far ?_ zL.out _) | exact HI0.out), by repeat (first | (with_reducible first | exact HB.out | apply belx_alloc | apply belx_drewN | apply belx_drew | refine belx_set ?_ zR.out | refine belx_set ?_ zS.out | apply belx_setg) | exact HB.out), by repeat (first | (with_reducible first | exact HK.out | apply KeepBut.set_ | apply zx | apply zy | apply zw | refine zu ?_ GW195.out _ | refine zu ?_ GW206.out _) | exact HK.out)⟩
theorem spec_l1DrawGood.callsX {B_ : Nat} (k : Nat) (g : Nat) (s0_0 : List Int) (s0_1 : Int) (s0_2 : Int) (s0_3 : Int) (r1 : List Int) (r2 : List (S45)) (r3 : Int) (r4 : Int) (r5 : Int) (w0 w : World) (hI : IsX93 B_ w0 w g s0_0 s0_1 s0_2 s0_3) (hB : Below w0.heap.size w0 w) (h : spec_l1DrawGood.f k s0_0 s0_1 s0_2 s0_3 = some (r1, r2, r3, r4, r5)) :
  Calls Try.prog 66 #[.pointer (some ⟨g, 0, none⟩)] w fun e w' => ∃ v0_ v1_ : Value, e = .returned (.agg #[v0_, v1_]) ∧ Kd.R (Kd.int .u8) 5 w' w.heap.size (fun _ => True) v0_ r1 ∧ Kd.S k45 45 w' w.heap.size (fun k_ => some k_ ≠ (v0_ : Value).ownBlock) v1_ r2 ∧ IsX93 B_ w0 w' g s0_0 r3 r4 r5 ∧ Below w0.heap.size w0 w' ∧ KeepBut w w' g none := by
 obtain ⟨wc_, hS_, hX_, hg_, hs_, hs2_, hs3_⟩ := hI
 refine (spec_l1DrawGood.calls k g s0_0 s0_1 s0_2 s0_3 r1 r2 r3 r4 r5 wc_ w hS_ hX_ h).mono ?_
 rintro e w' ⟨v0_, v1_, q0_, q1_, q2_, q3_, q4_, q5_⟩
 exact ⟨v0_, v1_, q0_, q1_, q2_, ⟨wc_, q3_, q4_, hg_, hs_, hs2_, Nat.le_trans hs3_ (q5_.1)⟩, belx_out hB hX_ q4_ q5_ hg_, q5_⟩

end Go.Proofs.Ytejecjjimggjeaa.GFnSync
