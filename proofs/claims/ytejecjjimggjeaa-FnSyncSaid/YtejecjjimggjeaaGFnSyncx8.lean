/- Written by give.py, a program of this session, that runs the kit's print and lays contracts proved by hand beside it. -/
import Derived.Test.YtejecjjimggjeaaGFnSyncx0
import Derived.Test.YtejecjjimggjeaaGFnSyncx1
import Derived.Test.YtejecjjimggjeaaGFnSyncx2
import Derived.Test.YtejecjjimggjeaaGFnSyncx4
import Derived.Test.YtejecjjimggjeaaGFnSyncx7
namespace Go.Proofs.Ytejecjjimggjeaa.GFnSync
open Go.RowKit Go.Proofs.YtejecjjimggjeaaW.PrintWords Go.Proofs.YtejecjjimggjeaaW.PrintLast Go.Proofs.YtejecjjimggjeaaW.PrintMore
attribute [local go_sem] max2_int min2_int max_two min_two max_three min_three max_four min_four
attribute [local go_sem high] Go.Proofs.YtejecjjimggjeaaH.str_leq Go.Proofs.YtejecjjimggjeaaH.str_geq Go.Proofs.YtejecjjimggjeaaH.str_gtr   -- for this text's walks alone
set_option linter.unusedVariables false
set_option linter.unusedSimpArgs false

def spec_DrawDiskWrite.j0 : Nat → Int → List Int → Int → List Int → List (S45) → Option (List Int × (List (S45)) × Int × List Int)
 | 0, _, _, _, _, _ => none
 | k + 1, x7, x8, x9, x324000, x324001 => if x9 = 1 then ((spec_l1Blocks.f x324000 x324001).bind fun t342 => (if x9 = 2 then (some (x324000, x324001, (-1), x8)) else (some (x324000, x324001, t342, x8)))) else (if x9 = 2 then (some (x324000, x324001, (-1), x8)) else (some (x324000, x324001, x7, x8)))
def spec_DrawDiskWrite.f (k : Nat) (l0 : List Int) : Option (List Int × (List (S45)) × Int × List Int) := (spec_l1Source.f k l0).bind fun bt309 => ((spec_l1DrawDisk.f k bt309.1 bt309.2.1 bt309.2.2.1 bt309.2.2.2).bind fun bt314 => ((spec_l1Blocks.f bt314.1 bt314.2.1).bind fun t324 => ((spec_l1Next.f bt309.1 bt314.2.2.1 bt314.2.2.2.1 bt314.2.2.2.2 t324).bind fun bt325 => ((spec_l1Fill.f k bt309.1 bt325.2.1 bt325.2.2.1 bt325.2.2.2).bind fun bt329 => ((spec_l1Next.f bt309.1 bt329.2.1 bt329.2.2.1 bt329.2.2.2 16).bind fun bt335 => (if bt335.1 = 0 then (if 1 ≤ (bt329.1.length : Int) then (spec_DrawDiskWrite.j0 k bt325.1 (bt329.1.drop (1 : Int).toNat) bt335.1 bt314.1 bt314.2.1) else (none)) else (spec_DrawDiskWrite.j0 k bt325.1 bt329.1 bt335.1 bt314.1 bt314.2.1)))))))
theorem spec_DrawDiskWrite.mono_l : ∀ k, (∀ y0 y1 y2 y3 y4, LeO (spec_DrawDiskWrite.j0 k y0 y1 y2 y3 y4) (spec_DrawDiskWrite.j0 (k + 1) y0 y1 y2 y3 y4))
 | 0 => fun _ _ _ _ _ r h => by simp [spec_DrawDiskWrite.j0] at h
 | k + 1 => by
  have ih0 := spec_DrawDiskWrite.mono_l k
  ·intro y0 y1 y2 y3 y4
   unfold spec_DrawDiskWrite.j0
   repeat' first
   | (with_reducible exact ih0 _ _ _ _ _)
   | (with_reducible exact spec_l1DrawDisk.mono _ _ _ _ _)
   | (with_reducible exact spec_l1Fill.mono _ _ _ _ _)
   | (with_reducible exact spec_l1Source.mono _ _)
   | (with_reducible exact LeO.refl _)
   | (with_reducible exact LeO.none _)
   | (with_reducible refine LeO.ite ?_ ?_)
   | (with_reducible refine LeO.bind ?_ (fun _ => ?_))
   | exact ih0 _ _ _ _ _
   | exact spec_l1DrawDisk.mono _ _ _ _ _
   | exact spec_l1Fill.mono _ _ _ _ _
   | exact spec_l1Source.mono _ _
   | exact LeO.none _
   | refine LeO.ite ?_ ?_
   | refine LeO.bind ?_ (fun _ => ?_)
theorem spec_DrawDiskWrite.mono : ∀ a0 k, LeO (spec_DrawDiskWrite.f k a0) (spec_DrawDiskWrite.f (k + 1) a0) := by
 intro a0 k
 have ih0 := spec_DrawDiskWrite.mono_l k
 unfold spec_DrawDiskWrite.f
 repeat' first
   | (with_reducible exact ih0 _ _ _ _ _)
   | (with_reducible exact spec_l1DrawDisk.mono _ _ _ _ _)
   | (with_reducible exact spec_l1Fill.mono _ _ _ _ _)
   | (with_reducible exact spec_l1Source.mono _ _)
   | (with_reducible exact LeO.refl _)
   | (with_reducible exact LeO.none _)
   | (with_reducible refine LeO.ite ?_ ?_)
   | (with_reducible refine LeO.bind ?_ (fun _ => ?_))
   | exact ih0 _ _ _ _ _
   | exact spec_l1DrawDisk.mono _ _ _ _ _
   | exact spec_l1Fill.mono _ _ _ _ _
   | exact spec_l1Source.mono _ _
   | exact LeO.none _
   | refine LeO.ite ?_ ?_
   | refine LeO.bind ?_ (fun _ => ?_)
set_option maxHeartbeats 8000000 in
set_option maxRecDepth 100000 in
theorem spec_DrawDiskWrite.calls (k : Nat) (A0 : Option Addr) (c0 : Nat) (l0 : List Int) (r1 : List Int) (r2 : List (S45)) (r3 : Int) (r4 : List Int) (w : World) (hr0 : Kd.C (Kd.int .u8) w A0 l0.length l0) (hc0 : l0.length ≤ c0) (h : spec_DrawDiskWrite.f k l0 = some (r1, r2, r3, r4)) :
  Calls Try.prog 15 #[.slice A0 l0.length c0] w fun e w' => ∃ v0_ v1_ v3_ : Value, e = .returned (.tuple #[.agg #[v0_, v1_], .int .i64 r3, v3_]) ∧ Kd.R (Kd.int .u8) 5 w' w.heap.size (fun k_ => some k_ ≠ (v3_ : Value).ownBlock) v0_ r1 ∧ Kd.S k45 45 w' w.heap.size (fun k_ => some k_ ≠ (v0_ : Value).ownBlock ∧ some k_ ≠ (v3_ : Value).ownBlock) v1_ r2 ∧ Kd.Q (Kd.int .u8) 5 w' w.heap.size (fun k_ => some k_ ≠ (v0_ : Value).ownBlock) v3_ r4 ∧ Below w.heap.size w w' := by
 have hu35 := Try.underlying35
 have HR0 := Aside0.mk hr0
 have HC0 := Aside0.mk hc0
 clear hr0 hc0
 have HB := Aside0.mk (Below.refl w.heap.size w)
 have H : ((spec_l1Source.f k l0).bind fun bt309 => ((spec_l1DrawDisk.f k bt309.1 bt309.2.1 bt309.2.2.1 bt309.2.2.2).bind fun bt314 => ((spec_l1Blocks.f bt314.1 bt314.2.1).bind fun t324 => ((spec_l1Next.f bt309.1 bt314.2.2.1 bt314.2.2.2.1 bt314.2.2.2.2 t324).bind fun bt325 => ((spec_l1Fill.f k bt309.1 bt325.2.1 bt325.2.2.1 bt325.2.2.2).bind fun bt329 => ((spec_l1Next.f bt309.1 bt329.2.1 bt329.2.2.1 bt329.2.2.2 16).bind fun bt335 => (if bt335.1 = 0 then (if 1 ≤ (bt329.1.length : Int) then (spec_DrawDiskWrite.j0 k bt325.1 (bt329.1.drop (1 : Int).toNat) bt335.1 bt314.1 bt314.2.1) else (none)) else (spec_DrawDiskWrite.j0 k bt325.1 bt329.1 bt335.1 bt314.1 bt314.2.1)))))))) = some (r1, r2, r3, r4) := h
 clear h
 replace H := Option.bind_eq_some_iff.mp H
 obtain ⟨⟨t309, t310, t311, t312⟩, A20, H⟩ := H
 replace H : ((spec_l1DrawDisk.f k t309 t310 t311 t312).bind fun bt314 => ((spec_l1Blocks.f bt314.1 bt314.2.1).bind fun t324 => ((spec_l1Next.f t309 bt314.2.2.1 bt314.2.2.2.1 bt314.2.2.2.2 t324).bind fun bt325 => ((spec_l1Fill.f k t309 bt325.2.1 bt325.2.2.1 bt325.2.2.2).bind fun bt329 => ((spec_l1Next.f t309 bt329.2.1 bt329.2.2.1 bt329.2.2.2 16).bind fun bt335 => (if bt335.1 = 0 then (if 1 ≤ (bt329.1.length : Int) then (spec_DrawDiskWrite.j0 k bt325.1 (bt329.1.drop (1 : Int).toNat) bt335.1 bt314.1 bt314.2.1) else (none)) else (spec_DrawDiskWrite.j0 k bt325.1 bt329.1 bt335.1 bt314.1 bt314.2.1))))))) = some (r1, r2, r3, r4) := H
 have A2 := Aside0.mk A20
 clear A20
 replace H := Option.bind_eq_some_iff.mp H
 obtain ⟨⟨t314, t317, t320, t321, t322⟩, A30, H⟩ := H
 replace H : ((spec_l1Blocks.f t314 t317).bind fun t324 => ((spec_l1Next.f t309 t320 t321 t322 t324).bind fun bt325 => ((spec_l1Fill.f k t309 bt325.2.1 bt325.2.2.1 bt325.2.2.2).bind fun bt329 => ((spec_l1Next.f t309 bt329.2.1 bt329.2.2.1 bt329.2.2.2 16).bind fun bt335 => (if bt335.1 = 0 then (if 1 ≤ (bt329.1.length : Int) then (spec_DrawDiskWrite.j0 k bt325.1 (bt329.1.drop (1 : Int).toNat) bt335.1 t314 t317) else (none)) else (spec_DrawDiskWrite.j0 k bt325.1 bt329.1 bt335.1 t314 t317)))))) = some (r1, r2, r3, r4) := H
 have A3 := Aside0.mk A30
 clear A30
 replace H := Option.bind_eq_some_iff.mp H
 obtain ⟨t324, A40, H⟩ := H
 replace H : ((spec_l1Next.f t309 t320 t321 t322 t324).bind fun bt325 => ((spec_l1Fill.f k t309 bt325.2.1 bt325.2.2.1 bt325.2.2.2).bind fun bt329 => ((spec_l1Next.f t309 bt329.2.1 bt329.2.2.1 bt329.2.2.2 16).bind fun bt335 => (if bt335.1 = 0 then (if 1 ≤ (bt329.1.length : Int) then (spec_DrawDiskWrite.j0 k bt325.1 (bt329.1.drop (1 : Int).toNat) bt335.1 t314 t317) else (none)) else (spec_DrawDiskWrite.j0 k bt325.1 bt329.1 bt335.1 t314 t317))))) = some (r1, r2, r3, r4) := H
 have A4 := Aside0.mk A40
 clear A40
 replace H := Option.bind_eq_some_iff.mp H
 obtain ⟨⟨t325, t326, t327, t328⟩, A50, H⟩ := H
 replace H : ((spec_l1Fill.f k t309 t326 t327 t328).bind fun bt329 => ((spec_l1Next.f t309 bt329.2.1 bt329.2.2.1 bt329.2.2.2 16).bind fun bt335 => (if bt335.1 = 0 then (if 1 ≤ (bt329.1.length : Int) then (spec_DrawDiskWrite.j0 k t325 (bt329.1.drop (1 : Int).toNat) bt335.1 t314 t317) else (none)) else (spec_DrawDiskWrite.j0 k t325 bt329.1 bt335.1 t314 t317)))) = some (r1, r2, r3, r4) := H
 have A5 := Aside0.mk A50
 clear A50
 replace H := Option.bind_eq_some_iff.mp H
 obtain ⟨⟨t329, t332, t333, t334⟩, A60, H⟩ := H
 replace H : ((spec_l1Next.f t309 t332 t333 t334 16).bind fun bt335 => (if bt335.1 = 0 then (if 1 ≤ (t329.length : Int) then (spec_DrawDiskWrite.j0 k t325 (t329.drop (1 : Int).toNat) bt335.1 t314 t317) else (none)) else (spec_DrawDiskWrite.j0 k t325 t329 bt335.1 t314 t317))) = some (r1, r2, r3, r4) := H
 have A6 := Aside0.mk A60
 clear A60
 replace H := Option.bind_eq_some_iff.mp H
 obtain ⟨⟨t335, t336, t337, t338⟩, A70, H⟩ := H
 replace H : (if t335 = 0 then (if 1 ≤ (t329.length : Int) then (spec_DrawDiskWrite.j0 k t325 (t329.drop (1 : Int).toNat) t335 t314 t317) else (none)) else (spec_DrawDiskWrite.j0 k t325 t329 t335 t314 t317)) = some (r1, r2, r3, r4) := H
 have A7 := Aside0.mk A70
 clear A70
 have HC8 := Aside0.mk H
 clear H
 go_enter Try.func15, Try.ntmps15
 go_upto_if 23 with (first | ((with_reducible refine zt (N := 2) rfl ?_); refine zF ?hg (N := 2) ?hd (cs := #[.slice none 0 0, .slice none 0 0]) (t := 35) ?hr ?_; (case hd => rfl); (case hg => rfl); (case hr => first | (go_simp; done) | (go_simp; rfl)); intro zH hg w9 hbox hb; have n0_ := Aside0.mk (zk (by exact bl HB.out) hb); have n1_ := Aside0.mk (hbox); have n2_ := Aside0.mk ((by rw [hg]; exact (zm (by exact bl HB.out)) : w.heap.size ≤ zH)); have n3_ := Aside0.mk ((by rw [hg]; exact (zm (by exact bl HB.out)) : w.heap.size ≤ zH)); clear HB; have HB := n0_; have zG := n1_; have GW308 := n2_; have zU := n3_; clear n0_ n1_ n2_ n3_; clear hb hbox hg) | ((with_reducible refine zo (f := 34) rfl ?_); refine zC (some 11) rfl rfl Try.func34 (by kernel_rfl) rfl #[.slice A0 l0.length c0] rfl (by (try simp only [List.map_toArray, List.map_cons, List.map_nil]); first | done | rfl) ?_; (with_reducible refine (spec_l1Source.calls k _ _ l0 t309 t310 t311 t312 w _ ?side1 ?side2 ?side3 A2.out).mono ?_); (case side1 => exact bl HB.out); (case side2 => exact HR0.out); (case side3 => exact HC0.out); rintro e w10 ⟨g313, rfl, hi, hb, hb2⟩; obtain ⟨bx_, hbx_⟩ : ∃ b_, b_ = w10.heap.size := ⟨_, rfl⟩; rw [← hbx_] at hi; clear hbx_; refine ⟨_, rfl, ?_⟩; have n0_ := Aside0.mk (zl (g := zH) (o := .cells #[.slice none 0 0, .slice none 0 0] 35 (0, 0)) (BL zG.out) hb2); have n1_ := Aside0.mk (hb); have n2_ := Aside0.mk (hi); have n3_ := Aside0.mk (IsX93.ne_blk hi (zl (g := zH) (o := .cells #[.slice none 0 0, .slice none 0 0] 35 (0, 0)) (BL zG.out) hb2) (by decide)); have n4_ := Aside0.mk (Ne.symm (IsX93.ne_blk hi (zl (g := zH) (o := .cells #[.slice none 0 0, .slice none 0 0] 35 (0, 0)) (BL zG.out) hb2) (by decide))); clear zG; clear HB; have zG := n0_; have HB := n1_; have HI313 := n2_; have zY := n3_; have zR := n4_; clear n0_ n1_ n2_ n3_ n4_; (try clear hb); (try clear hb2); (try clear hk); (try clear hi)) | ((with_reducible refine zo (f := 35) rfl ?_); refine zC (some 13) rfl rfl Try.func35 (by kernel_rfl) rfl #[.pointer (some ⟨g313, 0, none⟩)] rfl (by (try simp only [List.map_toArray, List.map_cons, List.map_nil]); first | done | rfl) ?_; (with_reducible refine (spec_l1DrawDisk.callsX (B_ := bx_) k g313 t309 t310 t311 t312 t314 t317 t320 t321 t322 w _ ?side1 ?side2 A3.out).mono ?_); (case side1 => exact IsX93.l HI313.out); (case side2 => exact bl HB.out); rintro e w11 ⟨v315, v318, rfl, zX, zeb, hi, hb, hk⟩; refine ⟨_, rfl, ?_⟩; have n0_ := Aside0.mk (KeepBut.blk hk (g' := zH) (o := .cells #[.slice none 0 0, .slice none 0 0] 35 (0, 0)) (BL zG.out) zR.out (by simp)); have n1_ := Aside0.mk (Kd.R_lower zX (zm (by exact bl HB.out))); have n2_ := Aside0.mk (Kd.S_lower zeb (zm (by exact bl HB.out))); have n3_ := Aside0.mk (hb); have n4_ := Aside0.mk (hi); clear zG; clear HB; clear HI313; have zG := n0_; have zM := n1_; have zN := n2_; have HB := n3_; have HI313 := n4_; clear n0_ n1_ n2_ n3_ n4_; (try clear hb); (try clear hb2); (try clear hk); (try clear hi); (try clear zX); (try clear zeb)) | ((with_reducible refine zt (N := 6) rfl ?_); refine zF ?hg (N := 6) ?hd (cs := #[.slice none 0 0, .slice none 0 0]) (t := 35) ?hr ?_; (case hd => rfl); (case hg => rfl); (case hr => first | (go_simp; done) | (go_simp; rfl)); intro zJ hg w12 hbox hb; have n0_ := Aside0.mk (Kd.R_below (RL zM.out) hb); have n1_ := Aside0.mk (Kd.S_below (SL zN.out) hb); have n2_ := Aside0.mk (zl (g := zH) (o := .cells #[.slice none 0 0, .slice none 0 0] 35 (0, 0)) (BL zG.out) hb); have n3_ := Aside0.mk (IsX93.below (by exact IsX93.l HI313.out) hb); have n4_ := Aside0.mk (zk (by exact bl HB.out) hb); have n5_ := Aside0.mk (hbox); have n6_ := Aside0.mk ((by rw [hg]; exact (zm (by exact bl HB.out)) : w.heap.size ≤ zJ)); have n7_ := Aside0.mk ((by rw [hg]; exact (zm (by exact bl HB.out)) : w.heap.size ≤ zJ)); have n8_ := Aside0.mk ((by rw [hg]; exact Nat.ne_of_lt (zr (g := zH) (o := .cells #[.slice none 0 0, .slice none 0 0] 35 (0, 0)) (BL zG.out)) : zH ≠ zJ)); have n9_ := Aside0.mk ((by rw [hg]; exact Nat.ne_of_gt (zr (g := zH) (o := .cells #[.slice none 0 0, .slice none 0 0] 35 (0, 0)) (BL zG.out)) : zJ ≠ zH)); have n10_ := Aside0.mk ((by rw [hg]; exact ⟨Nat.ne_of_lt (IsX93.lt (show IsX93 bx_ w _ g313 t309 t320 t321 t322 from by exact IsX93.l HI313.out)), IsX93.bd (show IsX93 bx_ w _ g313 t309 t320 t321 t322 from by exact IsX93.l HI313.out)⟩ : g313 ≠ zJ ∧ bx_ ≤ zJ)); have n11_ := Aside0.mk ((by rw [hg]; exact Nat.ne_of_gt (IsX93.lt (show IsX93 bx_ w _ g313 t309 t320 t321 t322 from by exact IsX93.l HI313.out)) : zJ ≠ g313)); clear zM; clear zN; clear zG; clear HI313; clear HB; have zM := n0_; have zN := n1_; have zG := n2_; have HI313 := n3_; have HB := n4_; have zI := n5_; have GW323 := n6_; have zV := n7_; have zO := n8_; have zQ := n9_; have zW := n10_; have zS := n11_; clear n0_ n1_ n2_ n3_ n4_ n5_ n6_ n7_ n8_ n9_ n10_ n11_; clear hb hbox hg; obtain ⟨Ao13, co13, eo13⟩ := Kd.R_slice zM.out; subst eo13; have zTb := zQ.out; have zUb := zO.out; have zVb := zS.out; have zWb := zW.out; have zZ : w12.cell? ⟨zJ, 0, none⟩ = some (.slice none 0 0) := (zb zI.out 0).trans rfl; have zab : w12.cell? ⟨zJ, 1, none⟩ = some (.slice none 0 0) := (zb zI.out 1).trans rfl; have zbb := zd zI.out 0; have zcb := zd zI.out 1; obtain ⟨Ao17, co17, eo17⟩ := Kd.S_slice zN.out; subst eo17) | ((with_reducible refine zo (f := 37) rfl ?_); have y0_ := Aside0.mk (Kd.R_mono (Kd.R_far (p := ⟨zJ, 1, none⟩) (Kd.R_far (p := ⟨zJ, 0, none⟩) (Kd.R_types zM.out zI.out (by decide)) (fun _ hk => hk.2) (.slice Ao13 t314.length co13)) (fun _ hk => hk.2) (.slice Ao17 t317.length co17)) (fun _ h_ => h_.1)); have y1_ := Aside0.mk (Kd.S_mono (Kd.S_far (p := ⟨zJ, 1, none⟩) (Kd.S_far (p := ⟨zJ, 0, none⟩) (Kd.S_types zN.out zI.out (by decide)) (fun _ hk => hk.2) (.slice Ao13 t314.length co13)) (fun _ hk => hk.2) (.slice Ao17 t317.length co17)) (fun _ h_ => h_.1)); refine zC (some 16) rfl rfl Try.func37 (by kernel_rfl) rfl #[.agg #[.slice Ao13 t314.length co13, .slice Ao17 t317.length co17]] rfl (by (try simp only [List.map_toArray, List.map_cons, List.map_nil]); first | done | rfl) ?_; (with_reducible refine (spec_l1Blocks.calls _ _ t314 _ _ t317 t324 _ ?side1 ?side2 ?side3 ?side4 A4.out).mono ?_); (case side1 => refine (Kd.R_reads' (e := 5) (base := w.heap.size) (ok := fun k_ => True) (n := t314.length) (c := co13) ?_).2.2; exact (RL y0_.out)); (case side2 => exact (Kd.R_reads' zM.out).2.1); (case side3 => refine (Kd.S_reads' (e := 45) (base := w.heap.size) (ok := fun k_ => some k_ ≠ (.slice Ao13 t314.length co13 : Value).ownBlock) (n := t317.length) (c := co17) ?_).2.2; exact (SL y1_.out)); (case side4 => exact (Kd.S_reads' zN.out).2.1); rintro e w18 ⟨rfl, hb⟩; refine ⟨_, rfl, ?_⟩; have n0_ := Aside0.mk (Kd.R_below (RL y0_.out) hb); have n1_ := Aside0.mk (Kd.S_below (SL y1_.out) hb); have n2_ := Aside0.mk (zl (g := zH) (o := .cells #[.slice none 0 0, .slice none 0 0] 35 (0, 0)) (by (with_reducible repeat (first | refine zj ?_ _ | refine zg ?_ | refine zh ?_ _)); refine zE ?_ zO.out _; (with_reducible repeat (first | refine zj ?_ _ | refine zg ?_ | refine zh ?_ _)); refine zE ?_ zO.out _; (with_reducible repeat (first | refine zj ?_ _ | refine zg ?_ | refine zh ?_ _)); exact zG.out) hb); have n3_ := Aside0.mk (IsX93.below (show IsX93 bx_ w ((w12.setCell ⟨zJ, 0, none⟩ (.slice Ao13 t314.length co13)).setCell ⟨zJ, 1, none⟩ (.slice Ao17 t317.length co17)) g313 t309 t320 t321 t322 from by repeat (first | (with_reducible first | exact HI313.out | apply IsX93.alloc | apply IsX93.drewN | apply IsX93.drew | apply IsX93.set_1 | apply IsX93.set_2 | apply IsX93.set_3 | refine IsX93.far ?_ zY.out _ | refine IsX93.far ?_ zW.out _) | exact HI313.out)) hb); have n4_ := Aside0.mk (zl (g := zJ) (o := .cells #[.slice Ao13 t314.length co13, .slice Ao17 t317.length co17] 35 (0, 0)) (by (with_reducible repeat (first | refine zj ?_ _ | refine zg ?_ | refine zh ?_ _)); refine zz (cs := #[.slice Ao13 t314.length co13, .slice none 0 0]) ?_ 1 _ rfl; (with_reducible repeat (first | refine zj ?_ _ | refine zg ?_ | refine zh ?_ _)); refine zz (cs := #[.slice none 0 0, .slice none 0 0]) ?_ 0 _ rfl; (with_reducible repeat (first | refine zj ?_ _ | refine zg ?_ | refine zh ?_ _)); exact zI.out) hb); have n5_ := Aside0.mk (zk (by repeat (first | (with_reducible first | exact HB.out | apply zf | apply ze | apply zi | refine zc ?_ (IsX93.ge HI313.out) | refine zc ?_ zU.out | refine zc ?_ zV.out) | exact HB.out)) hb); clear zM; clear zN; clear zG; clear HI313; clear zI; clear HB; have zM := n0_; have zN := n1_; have zG := n2_; have HI313 := n3_; have zI := n4_; have HB := n5_; clear n0_ n1_ n2_ n3_ n4_ n5_; (try clear hb); (try clear hb2); (try clear hk); (try clear hi); (try clear y0_ y1_)) | ((with_reducible refine zo (f := 36) rfl ?_); refine zC (some 17) rfl rfl Try.func36 (by kernel_rfl) rfl #[.pointer (some ⟨g313, 0, none⟩), .int .i64 t324] rfl (by (try simp only [List.map_toArray, List.map_cons, List.map_nil]); first | done | rfl) ?_; (with_reducible refine (spec_l1Next.callsX (B_ := bx_) g313 t309 t320 t321 t322 t324 t325 t326 t327 t328 w _ ?side1 ?side2 A5.out).mono ?_); (case side1 => exact IsX93.l HI313.out); (case side2 => exact bl HB.out); rintro e w19 ⟨rfl, hi, hb, hk⟩; refine ⟨_, rfl, ?_⟩; have n0_ := Aside0.mk (KeepBut.blk hk (g' := zH) (o := .cells #[.slice none 0 0, .slice none 0 0] 35 (0, 0)) (BL zG.out) zR.out (by simp)); have n1_ := Aside0.mk (Kd.R_mono (Kd.R_keep (IsX93.apart (show IsX93 bx_ w _ g313 t309 t320 t321 t322 from by exact IsX93.l HI313.out) (RL zM.out) (by decide)) hk (fun _ h => h.2)) (fun _ h => h.1)); have n2_ := Aside0.mk (Kd.S_mono (Kd.S_keep (IsX93.apartS (show IsX93 bx_ w _ g313 t309 t320 t321 t322 from by exact IsX93.l HI313.out) (SL zN.out) (by decide)) hk (fun _ h => h.2)) (fun _ h => h.1)); have n3_ := Aside0.mk (KeepBut.blk hk (g' := zJ) (o := .cells #[.slice Ao13 t314.length co13, .slice Ao17 t317.length co17] 35 (0, 0)) (BL zI.out) zS.out (by simp)); have n4_ := Aside0.mk (hb); have n5_ := Aside0.mk (hi); clear zG; clear zM; clear zN; clear zI; clear HB; clear HI313; have zG := n0_; have zM := n1_; have zN := n2_; have zI := n3_; have HB := n4_; have HI313 := n5_; clear n0_ n1_ n2_ n3_ n4_ n5_; (try clear hb); (try clear hb2); (try clear hk); (try clear hi)) | ((with_reducible refine zo (f := 38) rfl ?_); refine zC (some 19) rfl rfl Try.func38 (by kernel_rfl) rfl #[.pointer (some ⟨g313, 0, none⟩)] rfl (by (try simp only [List.map_toArray, List.map_cons, List.map_nil]); first | done | rfl) ?_; (with_reducible refine (spec_l1Fill.callsX (B_ := bx_) k g313 t309 t326 t327 t328 t329 t332 t333 t334 w _ ?side1 ?side2 A6.out).mono ?_); (case side1 => exact IsX93.l HI313.out); (case side2 => exact bl HB.out); rintro e w20 ⟨v330, rfl, zX, hi, hb, hk⟩; refine ⟨_, rfl, ?_⟩; have n0_ := Aside0.mk (KeepBut.blk hk (g' := zH) (o := .cells #[.slice none 0 0, .slice none 0 0] 35 (0, 0)) (BL zG.out) zR.out (by simp)); have n1_ := Aside0.mk (Kd.R_mono (Kd.R_told (Kd.R_oldK (IsX93.apart (show IsX93 bx_ w _ g313 t309 t326 t327 t328 from by exact IsX93.l HI313.out) (RL zM.out) (by decide)) hk) (Kd.R_base zX)) (fun _ h_ => h_.1)); have n2_ := Aside0.mk (Kd.S_mono (Kd.S_told (Kd.S_oldK (IsX93.apartS (show IsX93 bx_ w _ g313 t309 t326 t327 t328 from by exact IsX93.l HI313.out) (SL zN.out) (by decide)) hk) (Kd.R_base zX)) (fun _ h_ => h_.1)); have n3_ := Aside0.mk (KeepBut.blk hk (g' := zJ) (o := .cells #[.slice Ao13 t314.length co13, .slice Ao17 t317.length co17] 35 (0, 0)) (BL zI.out) zS.out (by simp)); have n4_ := Aside0.mk (Kd.R_lower (Kd.R_new' zX (Kd.R_lt (RL zM.out))) (zm (by exact bl HB.out))); have n5_ := Aside0.mk (hb); have n6_ := Aside0.mk (hi); clear zG; clear zM; clear zN; clear zI; clear HB; clear HI313; have zG := n0_; have zM := n1_; have zN := n2_; have zI := n3_; have zP := n4_; have HB := n5_; have HI313 := n6_; clear n0_ n1_ n2_ n3_ n4_ n5_ n6_; (try clear hb); (try clear hb2); (try clear hk); (try clear hi); (try clear zX)) | ((with_reducible refine zo (f := 36) rfl ?_); refine zC (some 21) rfl rfl Try.func36 (by kernel_rfl) rfl #[.pointer (some ⟨g313, 0, none⟩), .int .i64 16] rfl (by (try simp only [List.map_toArray, List.map_cons, List.map_nil]); first | done | rfl) ?_; (with_reducible refine (spec_l1Next.callsX (B_ := bx_) g313 t309 t332 t333 t334 16 t335 t336 t337 t338 w _ ?side1 ?side2 A7.out).mono ?_); (case side1 => exact IsX93.l HI313.out); (case side2 => exact bl HB.out); rintro e w21 ⟨rfl, hi, hb, hk⟩; refine ⟨_, rfl, ?_⟩; have n0_ := Aside0.mk (KeepBut.blk hk (g' := zH) (o := .cells #[.slice none 0 0, .slice none 0 0] 35 (0, 0)) (BL zG.out) zR.out (by simp)); have n1_ := Aside0.mk (Kd.R_mono (Kd.R_keep (IsX93.apart (show IsX93 bx_ w _ g313 t309 t332 t333 t334 from by exact IsX93.l HI313.out) (RL zM.out) (by decide)) hk (fun _ h => h.2)) (fun _ h => h.1)); have n2_ := Aside0.mk (Kd.S_mono (Kd.S_keep (IsX93.apartS (show IsX93 bx_ w _ g313 t309 t332 t333 t334 from by exact IsX93.l HI313.out) (SL zN.out) (by decide)) hk (fun _ h => h.2)) (fun _ h => h.1)); have n3_ := Aside0.mk (KeepBut.blk hk (g' := zJ) (o := .cells #[.slice Ao13 t314.length co13, .slice Ao17 t317.length co17] 35 (0, 0)) (BL zI.out) zS.out (by simp)); have n4_ := Aside0.mk (Kd.R_mono (Kd.R_keep (IsX93.apart (show IsX93 bx_ w _ g313 t309 t332 t333 t334 from by exact IsX93.l HI313.out) (RL zP.out) (by decide)) hk (fun _ h => h.2)) (fun _ h => h.1)); have n5_ := Aside0.mk (hb); have n6_ := Aside0.mk (hi); clear zG; clear zM; clear zN; clear zI; clear zP; clear HB; clear HI313; have zG := n0_; have zM := n1_; have zN := n2_; have zI := n3_; have zP := n4_; have HB := n5_; have HI313 := n6_; clear n0_ n1_ n2_ n3_ n4_ n5_ n6_; (try clear hb); (try clear hb2); (try clear hk); (try clear hi)))
 (try simp only [Act.put, List.setIfInBounds_toArray, List.set_cons_zero, List.set_cons_succ])
 go_cut [8] (fun v8 wc => ∃ (kq : Nat) (x8_7 : List Int), Aside0 (spec_DrawDiskWrite.j0 kq t325 x8_7 t335 t314 t317 = some (r1, r2, r3, r4)) ∧ Aside0 (kq ≤ k) ∧ Aside0 (Kd.Q (Kd.int .u8) 5 wc w.heap.size (fun k_ => some k_ ≠ ((.slice Ao13 t314.length co13) : Value).ownBlock) v8 x8_7) ∧ Aside0 (Kd.R (Kd.int .u8) 5 wc w.heap.size (fun k_ => some k_ ≠ (v8 : Value).ownBlock) (.slice Ao13 t314.length co13) t314) ∧ Aside0 (Kd.S k45 45 wc w.heap.size (fun k_ => some k_ ≠ (v8 : Value).ownBlock ∧ some k_ ≠ ((.slice Ao13 t314.length co13) : Value).ownBlock) (.slice Ao17 t317.length co17) t317) ∧ Aside0 (wc.heap[zH]? = some (.cells #[(.slice none 0 0), (.slice none 0 0)] 35 (0, 0))) ∧ Aside0 (wc.heap[zJ]? = some (.cells #[(.slice Ao13 t314.length co13), (.slice Ao17 t317.length co17)] 35 (0, 0))) ∧ Aside0 (Below w.heap.size w wc))
 case first =>
  have H := HC8.out
  clear HC8
  by_cases c22 : t335 = 0
  ·rw [if_pos c22] at H
   have c22b0 : (t335 == 0) = true := beq_iff_eq.mpr c22
   have c22b1 : (t335 != 0) = false := bne_eq_false_iff_eq.mpr c22
   clear c22
   (first | rw [c22b0] | (simp only [zp, zq]; rw [c22b0]) | skip)
   by_cases c23 : 1 ≤ (t329.length : Int)
   ·rw [if_pos c23] at H
    have c23b0 := eq_true c23
    have c23b1 : decide (1 ≤ (t329.length : Int)) = true := decide_eq_true c23
    clear c23
    obtain ⟨y339, hy339⟩ : ∃ y_ : List Int, y_ = (t329.drop (1 : Int).toNat) := ⟨_, rfl⟩
    replace H : (spec_DrawDiskWrite.j0 k t325 y339 t335 t314 t317) = some (r1, r2, r3, r4) := by first | (rw [hy339]; with_reducible exact H) | (have H2_ := (Option.bind_some _ _).symm.trans H; rw [hy339]; with_reducible exact H2_) | (have H2_ := (Option.bind_some _ _).symm.trans H; with_reducible exact H2_) | with_reducible exact H | (rw [hy339]; exact H) | exact H
    have Ny339 := Aside0.mk hy339
    clear hy339
    have H' := Aside0.mk H
    clear H
    obtain ⟨Ao24, co24, eo24⟩ := Kd.R_slice zP.out
    subst eo24
    have n_ := Aside0.mk (Kd.R_mono (ok' := (fun k_ => some k_ ≠ (.slice Ao13 t314.length co13 : Value).ownBlock)) zP.out (fun k_ hk => hk.2))
    clear zP
    have zP := n_
    clear n_
    have q25 : (1 : Int) ≤ ((t329.length : Int) : Int) := of_decide_eq_true (by first | (with_reducible assumption) | assumption)
    obtain ⟨i025, hi025, _, hsz25, _⟩ := info_parts info5
    have hcut25 := cut_from (P := Try.prog) 22 5 .i64 Try.underlying22 hi025 1 hsz25 Ao24 t329.length co24 1 (by omega) q25
    have hr25 := Kd.Q_drop (k := (1 : Int).toNat) (Kd.Q_of_R zP.out) (by omega)
    obtain ⟨A25, hA25⟩ : ∃ A1, A1 = (if co24 = (1 : Int).toNat then Ao24 else (Ao24 : Option Addr).map (·.add ((1 : Int).toNat * 1))) := ⟨_, rfl⟩
    obtain ⟨c25, hc25⟩ : ∃ c1, c1 = co24 - (1 : Int).toNat := ⟨_, rfl⟩
    have hy25 : y339.length = t329.length - (1 : Int).toNat := (by rw [Ny339.out, List.length_drop])
    rw [← Ny339.out] at hr25
    rw [← hy25, ← hA25, ← hc25] at hcut25
    replace hr25 : Kd.Q (Kd.int .u8) 5 w21 w.heap.size (fun k_ => some k_ ≠ (.slice Ao13 t314.length co13 : Value).ownBlock) (.slice A25 y339.length c25) y339 := (by rw [hA25, hc25, hy25]; exact hr25)
    have HE25 : Aside0 ((Value.slice A25 y339.length c25).ownBlock = (.slice Ao24 t329.length co24 : Value).ownBlock) := ⟨by rw [hA25]; split <;> (cases (Ao24 : Option Addr) <;> rfl)⟩
    clear hy25 hi025 hsz25 zP hA25 hc25
    have zdb := Aside0.mk hr25
    clear hr25
    replace q25 := eq_true q25
    have n_ := Aside0.mk (Kd.R_mono (ok' := fun k_ => (True ∧ some k_ ≠ (.slice A25 y339.length c25 : Value).ownBlock)) zM.out (fun k_ hk => ⟨trivial, (by rw [HE25.out]; exact hk.2)⟩))
    clear zM
    have zM := n_
    clear n_
    have n_ := Aside0.mk (Kd.S_mono (ok' := fun k_ => (some k_ ≠ (.slice Ao13 t314.length co13 : Value).ownBlock ∧ some k_ ≠ (.slice A25 y339.length c25 : Value).ownBlock)) zN.out (fun k_ hk => ⟨hk.1, (by rw [HE25.out]; exact hk.2)⟩))
    clear zN
    have zN := n_
    clear n_
    go_wp2
    go_meet
    case rel => exact ⟨_, (y339), H', ⟨by first | omega | exact Nat.le_refl _⟩, ⟨QL zdb.out⟩, ⟨RL (Kd.R_mono zM.out (fun _ hk => hk.2))⟩, ⟨SL (Kd.S_mono zN.out (fun _ hk => ⟨hk.2, hk.1⟩))⟩, ⟨BL zG.out⟩, ⟨BL zI.out⟩, ⟨by repeat (first | (with_reducible first | exact HB.out | apply zf | apply ze | apply zi | refine zc ?_ (IsX93.ge HI313.out) | refine zc ?_ zU.out | refine zc ?_ zV.out) | exact HB.out)⟩⟩
   ·rw [if_neg c23] at H
    exact absurd H (by simp)
  ·rw [if_neg c22] at H
   have c22b0 : (t335 == 0) = false := beq_eq_false_iff_ne.mpr c22
   have c22b1 : (t335 != 0) = true := bne_iff_ne.mpr c22
   (first | rw [c22b0] | (simp only [zp, zq]; rw [c22b0]) | skip)
   have H' := Aside0.mk H
   clear H
   go_wp2
   go_meet
   case rel => exact ⟨_, (t329), H', ⟨by first | omega | exact Nat.le_refl _⟩, ⟨Kd.Q_of_R (RL (Kd.R_mono zP.out (fun _ hk => hk.2)))⟩, ⟨RL (Kd.R_mono zM.out (fun _ hk => hk.2))⟩, ⟨SL (Kd.S_mono zN.out (fun _ hk => ⟨hk.2, hk.1⟩))⟩, ⟨BL zG.out⟩, ⟨BL zI.out⟩, ⟨by repeat (first | (with_reducible first | exact HB.out | apply zf | apply ze | apply zi | refine zc ?_ (IsX93.ge HI313.out) | refine zc ?_ zU.out | refine zc ?_ zV.out) | exact HB.out)⟩⟩
 case rest =>
  clear HC8
  try clear c1
  try clear c2
  try clear p2
  try clear q2
  try clear c3
  try clear c14
  try clear c15
  try clear c22
  try clear c22b0
  try clear c22b1
  try clear c23
  try clear c23b0
  try clear c23b1
  try clear c25
  try clear q25
  try clear zZ
  try clear zab
  try clear zbb
  try clear zcb
  try clear q25
  obtain ⟨kq, x8_7, HA, HJ7, zT, zK, zL, zG, zI, HB⟩ := hcut
  cases kq with
  | zero => exact absurd HA.out (by simp [spec_DrawDiskWrite.j0])
  | succ kj7 =>
   have H := HA.out
   clear HA
   simp only [spec_DrawDiskWrite.j0] at H
   by_cases c26 : t335 = 1
   ·rw [if_pos c26] at H
    have c26b0 : (t335 == 1) = true := beq_iff_eq.mpr c26
    have c26b1 : (t335 != 1) = false := bne_eq_false_iff_eq.mpr c26
    clear c26
    replace H := Option.bind_eq_some_iff.mp H
    obtain ⟨t342, A270, H⟩ := H
    replace H : (if t335 = 2 then (some (t314, t317, (-1), x8_7)) else (some (t314, t317, t342, x8_7))) = some (r1, r2, r3, r4) := H
    have A27 := Aside0.mk A270
    clear A270
    by_cases c28 : t335 = 2
    ·rw [if_pos c28] at H
     have c28b0 : (t335 == 2) = true := beq_iff_eq.mpr c28
     have c28b1 : (t335 != 2) = false := bne_eq_false_iff_eq.mpr c28
     clear c28
     simp only [Option.some.injEq, Prod.mk.injEq] at H
     obtain ⟨rfl, rfl, rfl, rfl⟩ := H
     have zXb := zQ.out
     have zYb := zO.out
     have zfb : wc.cell? ⟨zJ, 0, none⟩ = some (.slice Ao13 t314.length co13) := (zb zI.out 0).trans rfl
     have zgb : wc.cell? ⟨zJ, 1, none⟩ = some (.slice Ao17 t317.length co17) := (zb zI.out 1).trans rfl
     have zhb := zd zI.out 0
     have zib := zd zI.out 1
     go_wp2_with (first | ((with_reducible refine zo (f := 37) rfl ?_); refine zC (some 29) rfl rfl Try.func37 (by kernel_rfl) rfl #[.agg #[.slice Ao13 t314.length co13, .slice Ao17 t317.length co17]] rfl (by (try simp only [List.map_toArray, List.map_cons, List.map_nil]); first | done | rfl) ?_; (with_reducible refine (spec_l1Blocks.calls _ _ t314 _ _ t317 t342 _ ?side1 ?side2 ?side3 ?side4 A27.out).mono ?_); (case side1 => repeat (first | exact (Kd.R_reads' zK.out).2.2 | (with_reducible refine Kd.C_alloc ?_ _) | (with_reducible refine Kd.C_drewN ?_ _) | (with_reducible refine Kd.C_drew ?_))); (case side2 => exact (Kd.R_reads' zK.out).2.1); (case side3 => repeat (first | exact (Kd.S_reads' zL.out).2.2 | (with_reducible refine Kd.C_alloc ?_ _) | (with_reducible refine Kd.C_drewN ?_ _) | (with_reducible refine Kd.C_drew ?_))); (case side4 => exact (Kd.S_reads' zL.out).2.1); rintro e w31 ⟨rfl, hb⟩; refine ⟨_, rfl, ?_⟩; have n0_ := Aside0.mk (Kd.Q_below (QL zT.out) hb); have n1_ := Aside0.mk (Kd.R_below (RL zK.out) hb); have n2_ := Aside0.mk (Kd.S_below (SL zL.out) hb); have n3_ := Aside0.mk (zl (g := zH) (o := .cells #[.slice none 0 0, .slice none 0 0] 35 (0, 0)) (BL zG.out) hb); have n4_ := Aside0.mk (zl (g := zJ) (o := .cells #[.slice Ao13 t314.length co13, .slice Ao17 t317.length co17] 35 (0, 0)) (BL zI.out) hb); have n5_ := Aside0.mk (zk (by exact bl HB.out) hb); clear zT; clear zK; clear zL; clear zG; clear zI; clear HB; have zT := n0_; have zK := n1_; have zL := n2_; have zG := n3_; have zI := n4_; have HB := n5_; clear n0_ n1_ n2_ n3_ n4_ n5_; (try clear hb); (try clear hb2); (try clear hk); (try clear hi); have zjb : w31.cell? ⟨zJ, 0, none⟩ = some (.slice Ao13 t314.length co13) := (zb zI.out 0).trans rfl; have zkb : w31.cell? ⟨zJ, 1, none⟩ = some (.slice Ao17 t317.length co17) := (zb zI.out 1).trans rfl; have zlb := zd zI.out 0; have zmb := zd zI.out 1; have znb : w31.cell? ⟨zH, 0, none⟩ = some (.slice none 0 0) := (zb zG.out 0).trans rfl; have zob : w31.cell? ⟨zH, 1, none⟩ = some (.slice none 0 0) := (zb zG.out 1).trans rfl; have zpb := zd zG.out 0; have zqb := zd zG.out 1))
     refine bodyPost_ret (results_ctt rfl _ _ zH 35 #[.slice Ao13 t314.length co13, .slice Ao17 t317.length co17] (0, 0) _ rfl (by (with_reducible repeat (first | refine zj ?_ _ | refine zg ?_ | refine zh ?_ _)); refine zz (cs := #[.slice Ao13 t314.length co13, .slice none 0 0]) ?_ 1 _ rfl; (with_reducible repeat (first | refine zj ?_ _ | refine zg ?_ | refine zh ?_ _)); refine zz (cs := #[.slice none 0 0, .slice none 0 0]) ?_ 0 _ rfl; (with_reducible repeat (first | refine zj ?_ _ | refine zg ?_ | refine zh ?_ _)); exact zG.out) Try.underlying35 rfl (by kernel_rfl)) rfl ?_
     exact ⟨_, _, _, by first | rfl | (simp [errW_none, errW_some] <;> rfl) | (simp [*, errW_none, errW_some] <;> rfl), RL (Kd.R_mono (Kd.R_far (p := ⟨zH, 1, none⟩) (Kd.R_far (p := ⟨zH, 0, none⟩) (Kd.R_types zK.out zG.out (by decide)) (fun _ hk => hk.2) (.slice Ao13 t314.length co13)) (fun _ hk => hk.2) (.slice Ao17 t317.length co17)) (fun _ hk => hk.1)), SL (Kd.S_mono (Kd.S_far (p := ⟨zH, 1, none⟩) (Kd.S_far (p := ⟨zH, 0, none⟩) (Kd.S_types zL.out zG.out (by decide)) (fun _ hk => hk.2) (.slice Ao13 t314.length co13)) (fun _ hk => hk.2) (.slice Ao17 t317.length co17)) (fun _ hk => ⟨hk.1.2, hk.1.1⟩)), QL (Kd.Q_mono (Kd.Q_far (p := ⟨zH, 1, none⟩) (Kd.Q_far (p := ⟨zH, 0, none⟩) (Kd.Q_types zT.out zG.out (by decide)) (fun _ hk => hk.2) (.slice Ao13 t314.length co13)) (fun _ hk => hk.2) (.slice Ao17 t317.length co17)) (fun _ hk => hk.1)), by repeat (first | (with_reducible first | exact HB.out | apply zf | apply ze | apply zi | refine zc ?_ zU.out | refine zc ?_ zV.out) | exact HB.out)⟩
    ·rw [if_neg c28] at H
     have c28b0 : (t335 == 2) = false := beq_eq_false_iff_ne.mpr c28
     have c28b1 : (t335 != 2) = true := bne_iff_ne.mpr c28
     simp only [Option.some.injEq, Prod.mk.injEq] at H
     obtain ⟨rfl, rfl, rfl, rfl⟩ := H
     have zZb := zQ.out
     have zac := zO.out
     have zrb : wc.cell? ⟨zJ, 0, none⟩ = some (.slice Ao13 t314.length co13) := (zb zI.out 0).trans rfl
     have zsb : wc.cell? ⟨zJ, 1, none⟩ = some (.slice Ao17 t317.length co17) := (zb zI.out 1).trans rfl
     have ztb := zd zI.out 0
     have zub := zd zI.out 1
     go_wp2_with (first | ((with_reducible refine zo (f := 37) rfl ?_); refine zC (some 29) rfl rfl Try.func37 (by kernel_rfl) rfl #[.agg #[.slice Ao13 t314.length co13, .slice Ao17 t317.length co17]] rfl (by (try simp only [List.map_toArray, List.map_cons, List.map_nil]); first | done | rfl) ?_; (with_reducible refine (spec_l1Blocks.calls _ _ t314 _ _ t317 t342 _ ?side1 ?side2 ?side3 ?side4 A27.out).mono ?_); (case side1 => repeat (first | exact (Kd.R_reads' zK.out).2.2 | (with_reducible refine Kd.C_alloc ?_ _) | (with_reducible refine Kd.C_drewN ?_ _) | (with_reducible refine Kd.C_drew ?_))); (case side2 => exact (Kd.R_reads' zK.out).2.1); (case side3 => repeat (first | exact (Kd.S_reads' zL.out).2.2 | (with_reducible refine Kd.C_alloc ?_ _) | (with_reducible refine Kd.C_drewN ?_ _) | (with_reducible refine Kd.C_drew ?_))); (case side4 => exact (Kd.S_reads' zL.out).2.1); rintro e w36 ⟨rfl, hb⟩; refine ⟨_, rfl, ?_⟩; have n0_ := Aside0.mk (Kd.Q_below (QL zT.out) hb); have n1_ := Aside0.mk (Kd.R_below (RL zK.out) hb); have n2_ := Aside0.mk (Kd.S_below (SL zL.out) hb); have n3_ := Aside0.mk (zl (g := zH) (o := .cells #[.slice none 0 0, .slice none 0 0] 35 (0, 0)) (BL zG.out) hb); have n4_ := Aside0.mk (zl (g := zJ) (o := .cells #[.slice Ao13 t314.length co13, .slice Ao17 t317.length co17] 35 (0, 0)) (BL zI.out) hb); have n5_ := Aside0.mk (zk (by exact bl HB.out) hb); clear zT; clear zK; clear zL; clear zG; clear zI; clear HB; have zT := n0_; have zK := n1_; have zL := n2_; have zG := n3_; have zI := n4_; have HB := n5_; clear n0_ n1_ n2_ n3_ n4_ n5_; (try clear hb); (try clear hb2); (try clear hk); (try clear hi); have zvb : w36.cell? ⟨zJ, 0, none⟩ = some (.slice Ao13 t314.length co13) := (zb zI.out 0).trans rfl; have zwb : w36.cell? ⟨zJ, 1, none⟩ = some (.slice Ao17 t317.length co17) := (zb zI.out 1).trans rfl; have zxb := zd zI.out 0; have zyb := zd zI.out 1; have zzb : w36.cell? ⟨zH, 0, none⟩ = some (.slice none 0 0) := (zb zG.out 0).trans rfl; have zAb : w36.cell? ⟨zH, 1, none⟩ = some (.slice none 0 0) := (zb zG.out 1).trans rfl; have zBb := zd zG.out 0; have zCb := zd zG.out 1))
     refine bodyPost_ret (results_ctt rfl _ _ zH 35 #[.slice Ao13 t314.length co13, .slice Ao17 t317.length co17] (0, 0) _ rfl (by (with_reducible repeat (first | refine zj ?_ _ | refine zg ?_ | refine zh ?_ _)); refine zz (cs := #[.slice Ao13 t314.length co13, .slice none 0 0]) ?_ 1 _ rfl; (with_reducible repeat (first | refine zj ?_ _ | refine zg ?_ | refine zh ?_ _)); refine zz (cs := #[.slice none 0 0, .slice none 0 0]) ?_ 0 _ rfl; (with_reducible repeat (first | refine zj ?_ _ | refine zg ?_ | refine zh ?_ _)); exact zG.out) Try.underlying35 rfl (by kernel_rfl)) rfl ?_
     exact ⟨_, _, _, by first | rfl | (simp [errW_none, errW_some] <;> rfl) | (simp [*, errW_none, errW_some] <;> rfl), RL (Kd.R_mono (Kd.R_far (p := ⟨zH, 1, none⟩) (Kd.R_far (p := ⟨zH, 0, none⟩) (Kd.R_types zK.out zG.out (by decide)) (fun _ hk => hk.2) (.slice Ao13 t314.length co13)) (fun _ hk => hk.2) (.slice Ao17 t317.length co17)) (fun _ hk => hk.1)), SL (Kd.S_mono (Kd.S_far (p := ⟨zH, 1, none⟩) (Kd.S_far (p := ⟨zH, 0, none⟩) (Kd.S_types zL.out zG.out (by decide)) (fun _ hk => hk.2) (.slice Ao13 t314.length co13)) (fun _ hk => hk.2) (.slice Ao17 t317.length co17)) (fun _ hk => ⟨hk.1.2, hk.1.1⟩)), QL (Kd.Q_mono (Kd.Q_far (p := ⟨zH, 1, none⟩) (Kd.Q_far (p := ⟨zH, 0, none⟩) (Kd.Q_types zT.out zG.out (by decide)) (fun _ hk => hk.2) (.slice Ao13 t314.length co13)) (fun _ hk => hk.2) (.slice Ao17 t317.length co17)) (fun _ hk => hk.1)), by repeat (first | (with_reducible first | exact HB.out | apply zf | apply ze | apply zi | refine zc ?_ zU.out | refine zc ?_ zV.out) | exact HB.out)⟩
   ·rw [if_neg c26] at H
    have c26b0 : (t335 == 1) = false := beq_eq_false_iff_ne.mpr c26
    have c26b1 : (t335 != 1) = true := bne_iff_ne.mpr c26
    by_cases c39 : t335 = 2
    ·rw [if_pos c39] at H
     have c39b0 : (t335 == 2) = true := beq_iff_eq.mpr c39
     have c39b1 : (t335 != 2) = false := bne_eq_false_iff_eq.mpr c39
     clear c39
     simp only [Option.some.injEq, Prod.mk.injEq] at H
     obtain ⟨rfl, rfl, rfl, rfl⟩ := H
     have zbc := zQ.out
     have zcc := zO.out
     have zDb : wc.cell? ⟨zJ, 0, none⟩ = some (.slice Ao13 t314.length co13) := (zb zI.out 0).trans rfl
     have zEb : wc.cell? ⟨zJ, 1, none⟩ = some (.slice Ao17 t317.length co17) := (zb zI.out 1).trans rfl
     have zFb := zd zI.out 0
     have zGb := zd zI.out 1
     have zHb : wc.cell? ⟨zH, 0, none⟩ = some (.slice none 0 0) := (zb zG.out 0).trans rfl
     have zIb : wc.cell? ⟨zH, 1, none⟩ = some (.slice none 0 0) := (zb zG.out 1).trans rfl
     have zJb := zd zG.out 0
     have zKb := zd zG.out 1
     go_wp2
     refine bodyPost_ret (results_ctt rfl _ _ zH 35 #[.slice Ao13 t314.length co13, .slice Ao17 t317.length co17] (0, 0) _ rfl (by (with_reducible repeat (first | refine zj ?_ _ | refine zg ?_ | refine zh ?_ _)); refine zz (cs := #[.slice Ao13 t314.length co13, .slice none 0 0]) ?_ 1 _ rfl; (with_reducible repeat (first | refine zj ?_ _ | refine zg ?_ | refine zh ?_ _)); refine zz (cs := #[.slice none 0 0, .slice none 0 0]) ?_ 0 _ rfl; (with_reducible repeat (first | refine zj ?_ _ | refine zg ?_ | refine zh ?_ _)); exact zG.out) Try.underlying35 rfl (by kernel_rfl)) rfl ?_
     exact ⟨_, _, _, by first | rfl | (simp [errW_none, errW_some] <;> rfl) | (simp [*, errW_none, errW_some] <;> rfl), RL (Kd.R_mono (Kd.R_far (p := ⟨zH, 1, none⟩) (Kd.R_far (p := ⟨zH, 0, none⟩) (Kd.R_types zK.out zG.out (by decide)) (fun _ hk => hk.2) (.slice Ao13 t314.length co13)) (fun _ hk => hk.2) (.slice Ao17 t317.length co17)) (fun _ hk => hk.1)), SL (Kd.S_mono (Kd.S_far (p := ⟨zH, 1, none⟩) (Kd.S_far (p := ⟨zH, 0, none⟩) (Kd.S_types zL.out zG.out (by decide)) (fun _ hk => hk.2) (.slice Ao13 t314.length co13)) (fun _ hk => hk.2) (.slice Ao17 t317.length co17)) (fun _ hk => ⟨hk.1.2, hk.1.1⟩)), QL (Kd.Q_mono (Kd.Q_far (p := ⟨zH, 1, none⟩) (Kd.Q_far (p := ⟨zH, 0, none⟩) (Kd.Q_types zT.out zG.out (by decide)) (fun _ hk => hk.2) (.slice Ao13 t314.length co13)) (fun _ hk => hk.2) (.slice Ao17 t317.length co17)) (fun _ hk => hk.1)), by repeat (first | (with_reducible first | exact HB.out | apply zf | apply ze | apply zi | refine zc ?_ zU.out | refine zc ?_ zV.out) | exact HB.out)⟩
    ·rw [if_neg c39] at H
     have c39b0 : (t335 == 2) = false := beq_eq_false_iff_ne.mpr c39
     have c39b1 : (t335 != 2) = true := bne_iff_ne.mpr c39
     simp only [Option.some.injEq, Prod.mk.injEq] at H
     obtain ⟨rfl, rfl, rfl, rfl⟩ := H
     have zdc := zQ.out
     have zec := zO.out
     have zLb : wc.cell? ⟨zJ, 0, none⟩ = some (.slice Ao13 t314.length co13) := (zb zI.out 0).trans rfl
     have zMb : wc.cell? ⟨zJ, 1, none⟩ = some (.slice Ao17 t317.length co17) := (zb zI.out 1).trans rfl
     have zNb := zd zI.out 0
     have zOb := zd zI.out 1
     have zPb : wc.cell? ⟨zH, 0, none⟩ = some (.slice none 0 0) := (zb zG.out 0).trans rfl
     have zQb : wc.cell? ⟨zH, 1, none⟩ = some (.slice none 0 0) := (zb zG.out 1).trans rfl
     have zRb := zd zG.out 0
     have zSb := zd zG.out 1
     go_wp2
     refine bodyPost_ret (results_ctt rfl _ _ zH 35 #[.slice Ao13 t314.length co13, .slice Ao17 t317.length co17] (0, 0) _ rfl (by (with_reducible repeat (first | refine zj ?_ _ | refine zg ?_ | refine zh ?_ _)); refine zz (cs := #[.slice Ao13 t314.length co13, .slice none 0 0]) ?_ 1 _ rfl; (with_reducible repeat (first | refine zj ?_ _ | refine zg ?_ | refine zh ?_ _)); refine zz (cs := #[.slice none 0 0, .slice none 0 0]) ?_ 0 _ rfl; (with_reducible repeat (first | refine zj ?_ _ | refine zg ?_ | refine zh ?_ _)); exact zG.out) Try.underlying35 rfl (by kernel_rfl)) rfl ?_
     exact ⟨_, _, _, by first | rfl | (simp [errW_none, errW_some] <;> rfl) | (simp [*, errW_none, errW_some] <;> rfl), RL (Kd.R_mono (Kd.R_far (p := ⟨zH, 1, none⟩) (Kd.R_far (p := ⟨zH, 0, none⟩) (Kd.R_types zK.out zG.out (by decide)) (fun _ hk => hk.2) (.slice Ao13 t314.length co13)) (fun _ hk => hk.2) (.slice Ao17 t317.length co17)) (fun _ hk => hk.1)), SL (Kd.S_mono (Kd.S_far (p := ⟨zH, 1, none⟩) (Kd.S_far (p := ⟨zH, 0, none⟩) (Kd.S_types zL.out zG.out (by decide)) (fun _ hk => hk.2) (.slice Ao13 t314.length co13)) (fun _ hk => hk.2) (.slice Ao17 t317.length co17)) (fun _ hk => ⟨hk.1.2, hk.1.1⟩)), QL (Kd.Q_mono (Kd.Q_far (p := ⟨zH, 1, none⟩) (Kd.Q_far (p := ⟨zH, 0, none⟩) (Kd.Q_types zT.out zG.out (by decide)) (fun _ hk => hk.2) (.slice Ao13 t314.length co13)) (fun _ hk => hk.2) (.slice Ao17 t317.length co17)) (fun _ hk => hk.1)), by repeat (first | (with_reducible first | exact HB.out | apply zf | apply ze | apply zi | refine zc ?_ zU.out | refine zc ?_ zV.out) | exact HB.out)⟩

def impl_Disk_blocks.f (l0_0 : List Int) (l0_1 : List (S45)) : Option (Int) := some (wrap64 ((l0_0.length : Int) / 64))
set_option maxHeartbeats 8000000 in
set_option maxRecDepth 100000 in
theorem impl_Disk_blocks.calls (A0_0 : Option Addr) (c0_0 : Nat) (l0_0 : List Int) (A0_1 : Option Addr) (c0_1 : Nat) (l0_1 : List (S45)) (r : Int) (w : World) (hr0_0 : Kd.C (Kd.int .u8) w A0_0 l0_0.length l0_0) (hc0_0 : l0_0.length ≤ c0_0) (hr0_1 : Kd.C k45 w A0_1 l0_1.length l0_1) (hc0_1 : l0_1.length ≤ c0_1) (h : impl_Disk_blocks.f l0_0 l0_1 = some r) :
  Calls Try.prog 40 #[.agg #[.slice A0_0 l0_0.length c0_0, .slice A0_1 l0_1.length c0_1]] w fun e w' => e = .returned (.int .i64 r) ∧ Below w.heap.size w w' := by
 have hu35 := Try.underlying35
 have HR0_0 := Aside0.mk hr0_0
 have HC0_0 := Aside0.mk hc0_0
 clear hr0_0 hc0_0
 have HR0_1 := Aside0.mk hr0_1
 have HC0_1 := Aside0.mk hc0_1
 clear hr0_1 hc0_1
 have HB := Aside0.mk (Below.refl w.heap.size w)
 have H : (some (wrap64 ((l0_0.length : Int) / 64))) = some r := h
 clear h
 obtain rfl := Option.some.inj H
 go_enter Try.func40, Try.ntmps40
 go_wp2_with (first | ((with_reducible refine zt (N := 1) rfl ?_); refine zF ?hg (N := 1) ?hd (cs := #[.slice A0_0 l0_0.length c0_0, .slice A0_1 l0_1.length c0_1]) (t := 35) ?hr ?_; (case hd => rfl); (case hg => rfl); (case hr => first | (go_simp; done) | (go_simp; rfl)); intro zG hg w2 hbox hb; have n0_ := Aside0.mk (zk (by exact bl HB.out) hb); have n1_ := Aside0.mk (hbox); have n2_ := Aside0.mk ((by rw [hg]; exact (zm (by exact bl HB.out)) : w.heap.size ≤ zG)); have n3_ := Aside0.mk ((by rw [hg]; exact (zm (by exact bl HB.out)) : w.heap.size ≤ zG)); clear HB; have HB := n0_; have zH := n1_; have GW343 := n2_; have zI := n3_; clear n0_ n1_ n2_ n3_; clear hb hbox hg; have zJ : w2.cell? ⟨zG, 0, none⟩ = some (.slice A0_0 l0_0.length c0_0) := (zb zH.out 0).trans rfl; have zK : w2.cell? ⟨zG, 1, none⟩ = some (.slice A0_1 l0_1.length c0_1) := (zb zH.out 1).trans rfl; have zL := zd zH.out 0; have zM := zd zH.out 1))
 go_ret
 exact ⟨by first | rfl | (simp [errW_none, errW_some] <;> rfl) | (simp [*, errW_none, errW_some] <;> rfl), by repeat (first | (with_reducible first | exact HB.out | apply zf | apply ze | apply zi | refine zc ?_ zI.out) | exact HB.out)⟩

mutual
def impl_ValidDisk.j0 : Nat → Int → Bool → List Int → List (S45) → Option (Bool)
 | 0, _, _, _, _ => none
 | k + 1, x3, x26, x345000, x345001 => if x26 = true then (some false) else (impl_ValidDisk.l0 k x3 x345001 (x345001.length : Int) 0)
def impl_ValidDisk.l0 : Nat → Int → List (S45) → Int → Int → Option (Bool)
 | 0, _, _, _, _ => none
 | k + 1, x3, x28, x29, x30 => if x30 < x29 then (if 0 ≤ x30 then (if x30 < (x28.length : Int) then (if ((rd_T45 x28 x30).f0) < 0 then (some false) else (if ((rd_T45 x28 x30).f0) ≥ x3 then (some false) else (if (((rd_T45 x28 x30).f1).length : Int) = 64 then (impl_ValidDisk.l0 k x3 x28 x29 (wrap64 (x30 + 1))) else (some false)))) else (none)) else (none)) else (some true)
end
def impl_ValidDisk.f (k : Nat) (l0_0 : List Int) (l0_1 : List (S45)) : Option (Bool) := (impl_Disk_blocks.f l0_0 l0_1).bind fun t345 => (if ((l0_0.length : Int) % 64) = 0 then (if t345 < 1 then (impl_ValidDisk.j0 k t345 true l0_0 l0_1) else (if t345 > 300 then (impl_ValidDisk.j0 k t345 true l0_0 l0_1) else (impl_ValidDisk.j0 k t345 (decide ((l0_1.length : Int) > 2000)) l0_0 l0_1))) else (impl_ValidDisk.j0 k t345 true l0_0 l0_1))
theorem impl_ValidDisk.mono_l : ∀ k, (∀ y0 y1 y2 y3, LeO (impl_ValidDisk.j0 k y0 y1 y2 y3) (impl_ValidDisk.j0 (k + 1) y0 y1 y2 y3)) ∧ (∀ y0 y1 y2 y3, LeO (impl_ValidDisk.l0 k y0 y1 y2 y3) (impl_ValidDisk.l0 (k + 1) y0 y1 y2 y3))
 | 0 => ⟨fun _ _ _ _ r h => by simp [impl_ValidDisk.j0] at h, fun _ _ _ _ r h => by simp [impl_ValidDisk.l0] at h⟩
 | k + 1 => by
  obtain ⟨ih0, ih1⟩ := impl_ValidDisk.mono_l k
  refine ⟨?_, ?_⟩
  ·intro y0 y1 y2 y3
   unfold impl_ValidDisk.j0
   repeat' first
   | (with_reducible exact ih0 _ _ _ _)
   | (with_reducible exact ih1 _ _ _ _)
   | (with_reducible exact LeO.refl _)
   | (with_reducible exact LeO.none _)
   | (with_reducible refine LeO.ite ?_ ?_)
   | (with_reducible refine LeO.bind ?_ (fun _ => ?_))
   | exact ih0 _ _ _ _
   | exact ih1 _ _ _ _
   | exact LeO.none _
   | refine LeO.ite ?_ ?_
   | refine LeO.bind ?_ (fun _ => ?_)
  ·intro y0 y1 y2 y3
   unfold impl_ValidDisk.l0
   repeat' first
   | (with_reducible exact ih0 _ _ _ _)
   | (with_reducible exact ih1 _ _ _ _)
   | (with_reducible exact LeO.refl _)
   | (with_reducible exact LeO.none _)
   | (with_reducible refine LeO.ite ?_ ?_)
   | (with_reducible refine LeO.bind ?_ (fun _ => ?_))
   | exact ih0 _ _ _ _
   | exact ih1 _ _ _ _
   | exact LeO.none _
   | refine LeO.ite ?_ ?_
   | refine LeO.bind ?_ (fun _ => ?_)
theorem impl_ValidDisk.mono : ∀ a0 a1 k, LeO (impl_ValidDisk.f k a0 a1) (impl_ValidDisk.f (k + 1) a0 a1) := by
 intro a0 a1 k
 obtain ⟨ih0, ih1⟩ := impl_ValidDisk.mono_l k
 unfold impl_ValidDisk.f
 repeat' first
   | (with_reducible exact ih0 _ _ _ _)
   | (with_reducible exact ih1 _ _ _ _)
   | (with_reducible exact LeO.refl _)
   | (with_reducible exact LeO.none _)
   | (with_reducible refine LeO.ite ?_ ?_)
   | (with_reducible refine LeO.bind ?_ (fun _ => ?_))
   | exact ih0 _ _ _ _
   | exact ih1 _ _ _ _
   | exact LeO.none _
   | refine LeO.ite ?_ ?_
   | refine LeO.bind ?_ (fun _ => ?_)
set_option maxHeartbeats 8000000 in
set_option maxRecDepth 100000 in
theorem impl_ValidDisk.calls (k : Nat) (A0_0 : Option Addr) (c0_0 : Nat) (l0_0 : List Int) (A0_1 : Option Addr) (c0_1 : Nat) (l0_1 : List (S45)) (r : Bool) (w : World) (hr0_0 : Kd.C (Kd.int .u8) w A0_0 l0_0.length l0_0) (hc0_0 : l0_0.length ≤ c0_0) (hr0_1 : Kd.C k45 w A0_1 l0_1.length l0_1) (hc0_1 : l0_1.length ≤ c0_1) (h : impl_ValidDisk.f k l0_0 l0_1 = some r) :
  Calls Try.prog 39 #[.agg #[.slice A0_0 l0_0.length c0_0, .slice A0_1 l0_1.length c0_1]] w fun e w' => e = .returned (.bool r) ∧ Below w.heap.size w w' := by
 have hu35 := Try.underlying35
 have hu45 := Try.underlying45
 have HR0_0 := Aside0.mk hr0_0
 have HC0_0 := Aside0.mk hc0_0
 clear hr0_0 hc0_0
 have HR0_1 := Aside0.mk hr0_1
 have HC0_1 := Aside0.mk hc0_1
 clear hr0_1 hc0_1
 have HB := Aside0.mk (Below.refl w.heap.size w)
 have H : ((impl_Disk_blocks.f l0_0 l0_1).bind fun t345 => (if ((l0_0.length : Int) % 64) = 0 then (if t345 < 1 then (impl_ValidDisk.j0 k t345 true l0_0 l0_1) else (if t345 > 300 then (impl_ValidDisk.j0 k t345 true l0_0 l0_1) else (impl_ValidDisk.j0 k t345 (decide ((l0_1.length : Int) > 2000)) l0_0 l0_1))) else (impl_ValidDisk.j0 k t345 true l0_0 l0_1))) = some r := h
 clear h
 replace H := Option.bind_eq_some_iff.mp H
 obtain ⟨t345, A20, H⟩ := H
 replace H : (if ((l0_0.length : Int) % 64) = 0 then (if t345 < 1 then (impl_ValidDisk.j0 k t345 true l0_0 l0_1) else (if t345 > 300 then (impl_ValidDisk.j0 k t345 true l0_0 l0_1) else (impl_ValidDisk.j0 k t345 (decide ((l0_1.length : Int) > 2000)) l0_0 l0_1))) else (impl_ValidDisk.j0 k t345 true l0_0 l0_1)) = some r := H
 have A2 := Aside0.mk A20
 clear A20
 have HC3 := Aside0.mk H
 clear H
 go_enter Try.func39, Try.ntmps39
 go_upto_region 2 with (first | ((with_reducible refine zt (N := 1) rfl ?_); (try (refine gate_guard (by rfl) ?_; dsimp only)); refine zF ?hg (N := 1) ?hd (cs := #[.slice A0_0 l0_0.length c0_0, .slice A0_1 l0_1.length c0_1]) (t := 35) ?hr ?_; (case hd => rfl); (case hg => rfl); (case hr => first | (go_simp; done) | (go_simp; rfl)); intro zH hg w4 hbox hb; have n0_ := Aside0.mk (zk (by exact bl HB.out) hb); have n1_ := Aside0.mk (hbox); have n2_ := Aside0.mk ((by rw [hg]; exact (zm (by exact bl HB.out)) : w.heap.size ≤ zH)); have n3_ := Aside0.mk ((by rw [hg]; exact (zm (by exact bl HB.out)) : w.heap.size ≤ zH)); clear HB; have HB := n0_; have zG := n1_; have GW344 := n2_; have zM := n3_; clear n0_ n1_ n2_ n3_; clear hb hbox hg; have zab : w4.cell? ⟨zH, 0, none⟩ = some (.slice A0_0 l0_0.length c0_0) := (zb zG.out 0).trans rfl; have zbb : w4.cell? ⟨zH, 1, none⟩ = some (.slice A0_1 l0_1.length c0_1) := (zb zG.out 1).trans rfl; have zcb := zd zG.out 0; have zdb := zd zG.out 1) | ((with_reducible refine zo (f := 40) rfl ?_); refine zC (some 7) rfl rfl Try.func40 (by kernel_rfl) rfl #[.agg #[.slice A0_0 l0_0.length c0_0, .slice A0_1 l0_1.length c0_1]] rfl (by (try simp only [List.map_toArray, List.map_cons, List.map_nil]); first | done | rfl) ?_; (with_reducible refine (impl_Disk_blocks.calls _ _ l0_0 _ _ l0_1 t345 _ ?side1 ?side2 ?side3 ?side4 A2.out).mono ?_); (case side1 => repeat (first | exact (Kd.C_below HR0_0.out HB.out) | (with_reducible refine Kd.C_alloc ?_ _) | (with_reducible refine Kd.C_drewN ?_ _) | (with_reducible refine Kd.C_drew ?_))); (case side2 => exact HC0_0.out); (case side3 => repeat (first | exact (Kd.C_below HR0_1.out HB.out) | (with_reducible refine Kd.C_alloc ?_ _) | (with_reducible refine Kd.C_drewN ?_ _) | (with_reducible refine Kd.C_drew ?_))); (case side4 => exact HC0_1.out); rintro e w6 ⟨rfl, hb⟩; refine ⟨_, rfl, ?_⟩; have n0_ := Aside0.mk (zl (g := zH) (o := .cells #[.slice A0_0 l0_0.length c0_0, .slice A0_1 l0_1.length c0_1] 35 (0, 0)) (BL zG.out) hb); have n1_ := Aside0.mk (zk (by exact bl HB.out) hb); clear zG; clear HB; have zG := n0_; have HB := n1_; clear n0_ n1_; (try clear hb); (try clear hb2); (try clear hk); (try clear hi)))
 (try simp only [Act.put, List.setIfInBounds_toArray, List.set_cons_zero, List.set_cons_succ])
 go_cut [26] (fun v26 wc => ∃ (kq : Nat) (x26_2 : Bool), v26 = .bool x26_2 ∧ Aside0 (impl_ValidDisk.j0 kq t345 x26_2 l0_0 l0_1 = some r) ∧ Aside0 (kq ≤ k) ∧ Aside0 (wc.heap[zH]? = some (.cells #[(.slice A0_0 l0_0.length c0_0), (.slice A0_1 l0_1.length c0_1)] 35 (0, 0))) ∧ Aside0 (Below w.heap.size w wc))
 case first =>
  have H := HC3.out
  clear HC3
  by_cases c7 : ((l0_0.length : Int) % 64) = 0
  ·rw [if_pos c7] at H
   have c7b0 : (((l0_0.length : Int) % 64) == 0) = true := beq_iff_eq.mpr c7
   have c7b1 : (((l0_0.length : Int) % 64) != 0) = false := bne_eq_false_iff_eq.mpr c7
   clear c7
   (first | rw [c7b0] | (simp only [zp, zq]; rw [c7b0]) | skip)
   by_cases c8 : t345 < 1
   ·rw [if_pos c8] at H
    have c8b0 : decide (t345 < 1) = true := decide_eq_true c8
    clear c8
    have H' := Aside0.mk H
    clear H
    have zeb : w6.cell? ⟨zH, 0, none⟩ = some (.slice A0_0 l0_0.length c0_0) := (zb zG.out 0).trans rfl
    have zfb : w6.cell? ⟨zH, 1, none⟩ = some (.slice A0_1 l0_1.length c0_1) := (zb zG.out 1).trans rfl
    have zgb := zd zG.out 0
    have zhb := zd zG.out 1
    go_wp2
    go_meet
    case rel => exact ⟨_, (true), (by first | rfl | (simp; done) | (simp [*]; done)), H', ⟨by first | omega | exact Nat.le_refl _⟩, ⟨BL zG.out⟩, ⟨by repeat (first | (with_reducible first | exact HB.out | apply zf | apply ze | apply zi | refine zc ?_ zM.out) | exact HB.out)⟩⟩
   ·rw [if_neg c8] at H
    have c8b0 : decide (t345 < 1) = false := decide_eq_false c8
    clear c8
    by_cases c10 : t345 > 300
    ·rw [if_pos c10] at H
     have c10b0 : decide (300 < t345) = true := decide_eq_true c10
     clear c10
     have H' := Aside0.mk H
     clear H
     have zO : w6.cell? ⟨zH, 0, none⟩ = some (.slice A0_0 l0_0.length c0_0) := (zb zG.out 0).trans rfl
     have zP : w6.cell? ⟨zH, 1, none⟩ = some (.slice A0_1 l0_1.length c0_1) := (zb zG.out 1).trans rfl
     have zQ := zd zG.out 0
     have zR := zd zG.out 1
     go_wp2
     go_meet
     case rel => exact ⟨_, (true), (by first | rfl | (simp; done) | (simp [*]; done)), H', ⟨by first | omega | exact Nat.le_refl _⟩, ⟨BL zG.out⟩, ⟨by repeat (first | (with_reducible first | exact HB.out | apply zf | apply ze | apply zi | refine zc ?_ zM.out) | exact HB.out)⟩⟩
    ·rw [if_neg c10] at H
     have c10b0 : decide (300 < t345) = false := decide_eq_false c10
     clear c10
     have H' := Aside0.mk H
     clear H
     have zS : w6.cell? ⟨zH, 0, none⟩ = some (.slice A0_0 l0_0.length c0_0) := (zb zG.out 0).trans rfl
     have zT : w6.cell? ⟨zH, 1, none⟩ = some (.slice A0_1 l0_1.length c0_1) := (zb zG.out 1).trans rfl
     have zU := zd zG.out 0
     have zV := zd zG.out 1
     go_wp2
     go_meet
     case rel => exact ⟨_, (decide ((l0_1.length : Int) > 2000)), (by first | rfl | (simp; done) | (simp [*]; done)), H', ⟨by first | omega | exact Nat.le_refl _⟩, ⟨BL zG.out⟩, ⟨by repeat (first | (with_reducible first | exact HB.out | apply zf | apply ze | apply zi | refine zc ?_ zM.out) | exact HB.out)⟩⟩
  ·rw [if_neg c7] at H
   have c7b0 : (((l0_0.length : Int) % 64) == 0) = false := beq_eq_false_iff_ne.mpr c7
   have c7b1 : (((l0_0.length : Int) % 64) != 0) = true := bne_iff_ne.mpr c7
   (first | rw [c7b0] | (simp only [zp, zq]; rw [c7b0]) | skip)
   have H' := Aside0.mk H
   clear H
   have zW : w6.cell? ⟨zH, 0, none⟩ = some (.slice A0_0 l0_0.length c0_0) := (zb zG.out 0).trans rfl
   have zX : w6.cell? ⟨zH, 1, none⟩ = some (.slice A0_1 l0_1.length c0_1) := (zb zG.out 1).trans rfl
   have zY := zd zG.out 0
   have zZ := zd zG.out 1
   go_wp2
   go_meet
   case rel => exact ⟨_, (true), (by first | rfl | (simp; done) | (simp [*]; done)), H', ⟨by first | omega | exact Nat.le_refl _⟩, ⟨BL zG.out⟩, ⟨by repeat (first | (with_reducible first | exact HB.out | apply zf | apply ze | apply zi | refine zc ?_ zM.out) | exact HB.out)⟩⟩
 case rest =>
  clear HC3
  try clear c1
  try clear p2
  try clear c3
  try clear c4
  try clear c7
  try clear c7b0
  try clear c7b1
  try clear c8
  try clear c8b0
  try clear c10
  try clear c10b0
  try clear zO
  try clear zP
  try clear zS
  try clear zT
  try clear zW
  try clear zX
  try clear zab
  try clear zbb
  try clear zeb
  try clear zfb
  try clear zQ
  try clear zR
  try clear zU
  try clear zV
  try clear zY
  try clear zZ
  try clear zcb
  try clear zdb
  try clear zgb
  try clear zhb
  obtain ⟨kq, x26_2, rfl, HA, HJ2, zG, HB⟩ := hcut
  cases kq with
  | zero => exact absurd HA.out (by simp [impl_ValidDisk.j0])
  | succ kj2 =>
   have H := HA.out
   clear HA
   simp only [impl_ValidDisk.j0] at H
   by_cases c14 : x26_2 = true
   ·subst c14
    have H1 : (some false) = some r := by rw [if_pos rfl] at H; exact H
    clear H
    have H := H1
    clear H1
    obtain rfl := Option.some.inj H
    go_wp2
    go_ret
    exact ⟨by first | rfl | (simp [errW_none, errW_some] <;> rfl) | (simp [*, errW_none, errW_some] <;> rfl), by repeat (first | (with_reducible first | exact HB.out | apply zf | apply ze | apply zi | refine zc ?_ zM.out) | exact HB.out)⟩
   ·replace c14 := Bool.eq_false_iff.mpr c14
    subst c14
    have H1 : (impl_ValidDisk.l0 kj2 t345 l0_1 (l0_1.length : Int) 0) = some r := by rw [if_neg (show ¬ (false = true) by decide)] at H; exact H
    clear H
    have H := H1
    clear H1
    have H' := Aside0.mk H
    clear H
    have zib : wc.cell? ⟨zH, 0, none⟩ = some (.slice A0_0 l0_0.length c0_0) := (zb zG.out 0).trans rfl
    have zjb : wc.cell? ⟨zH, 1, none⟩ = some (.slice A0_1 l0_1.length c0_1) := (zb zG.out 1).trans rfl
    have zkb := zd zG.out 0
    have zlb := zd zG.out 1
    go_wp2
    go_loopg [30] kj2 (fun kq v30 w' => ∃ (x30_2 : Int), v30 = .int .i64 x30_2 ∧ Aside0 (impl_ValidDisk.l0 kq t345 l0_1 (l0_1.length : Int) x30_2 = some r) ∧ Aside0 (kq ≤ kj2) ∧ Aside0 (w'.heap[zH]? = some (.cells #[(.slice A0_0 l0_0.length c0_0), (.slice A0_1 l0_1.length c0_1)] 35 (0, 0))) ∧ Aside0 (Below w.heap.size w w'))
    case atStart => exact ⟨(0), (by first | rfl | (simp; done) | (simp [*]; done)), H', ⟨Nat.le_refl _⟩, ⟨BL zG.out⟩, ⟨by repeat (first | (with_reducible first | exact HB.out | apply zf | apply ze | apply zi | refine zc ?_ zM.out) | exact HB.out)⟩⟩
    case round =>
     clear H'
     try clear c1
     try clear p2
     try clear c3
     try clear c4
     try clear c7
     try clear c7b0
     try clear c7b1
     try clear c8
     try clear c8b0
     try clear c10
     try clear c10b0
     try clear c14
     try clear zO
     try clear zP
     try clear zS
     try clear zT
     try clear zW
     try clear zX
     try clear zib
     try clear zjb
     try clear zab
     try clear zbb
     try clear zeb
     try clear zfb
     try clear zQ
     try clear zR
     try clear zU
     try clear zV
     try clear zY
     try clear zZ
     try clear zkb
     try clear zlb
     try clear zcb
     try clear zdb
     try clear zgb
     try clear zhb
     try clear p2
     obtain ⟨x30_2, rfl, HA, HK2, zG, HB⟩ := hrel
     cases gk with
     | zero => exact absurd HA.out (by simp [impl_ValidDisk.l0])
     | succ k2 =>
      have H := HA.out
      clear HA
      simp only [impl_ValidDisk.l0] at H
      by_cases c16 : x30_2 < (l0_1.length : Int)
      ·rw [if_pos c16] at H
       have c16b0 : decide (x30_2 < (l0_1.length : Int)) = true := decide_eq_true c16
       clear c16
       by_cases c17 : 0 ≤ x30_2
       ·rw [if_pos c17] at H
        have c17b0 : decide (0 ≤ x30_2) = true := decide_eq_true c17
        clear c17
        by_cases c18 : x30_2 < (l0_1.length : Int)
        ·rw [if_pos c18] at H
         have c18b0 : decide (x30_2 < (l0_1.length : Int)) = true := decide_eq_true c18
         clear c18
         by_cases c19 : ((rd_T45 l0_1 x30_2).f0) < 0
         ·rw [if_pos c19] at H
          have c19b0 : decide (((rd_T45 l0_1 x30_2).f0) < 0) = true := decide_eq_true c19
          clear c19
          obtain rfl := Option.some.inj H
          have p346 : 0 ≤ (x30_2 : Int) := of_decide_eq_true (by first | (with_reducible assumption) | assumption)
          have q346 : x30_2 < (l0_1.length : Int) := of_decide_eq_true (by first | (with_reducible assumption) | assumption)
          obtain ⟨ad346, A346_1, c346_1, e346, hx346_0, hx346_1, hl346_1, hi346_1⟩ := at_T45 HR0_1.out x30_2 p346 q346
          cases e346
          replace hx346_0 := zn HB.out hx346_0
          replace hx346_1 := zn HB.out hx346_1
          have HR346_1 := Aside0.mk hi346_1
          have HC346_1 := Aside0.mk hl346_1
          clear hi346_1 hl346_1
          replace p346 := eq_true p346
          replace q346 := eq_true q346
          go_wp2_with (first | ((with_reducible refine zt (N := 5) rfl ?_); (try (refine gate_guard (by rfl) ?_; dsimp only)); refine zF ?hg (N := 5) ?hd (cs := #[.int .i64 0, .slice none 0 0]) (t := 45) ?hr ?_; (case hd => rfl); (case hg => rfl); (case hr => first | (go_simp; done) | (go_simp; rfl)); intro zI hg w20 hbox hb; have n0_ := Aside0.mk (zl (g := zH) (o := .cells #[.slice A0_0 l0_0.length c0_0, .slice (some ad346) l0_1.length c0_1] 35 (0, 0)) (BL zG.out) hb); have n1_ := Aside0.mk (zk (by exact bl HB.out) hb); have n2_ := Aside0.mk (hbox); have n3_ := Aside0.mk ((by rw [hg]; exact (zm (by exact bl HB.out)) : w.heap.size ≤ zI)); have n4_ := Aside0.mk ((by rw [hg]; exact (zm (by exact bl HB.out)) : w.heap.size ≤ zI)); have n5_ := Aside0.mk ((by rw [hg]; exact Nat.ne_of_lt (zr (g := zH) (o := .cells #[.slice A0_0 l0_0.length c0_0, .slice (some ad346) l0_1.length c0_1] 35 (0, 0)) (BL zG.out)) : zH ≠ zI)); have n6_ := Aside0.mk ((by rw [hg]; exact Nat.ne_of_gt (zr (g := zH) (o := .cells #[.slice A0_0 l0_0.length c0_0, .slice (some ad346) l0_1.length c0_1] 35 (0, 0)) (BL zG.out)) : zI ≠ zH)); clear zG; clear HB; have zG := n0_; have HB := n1_; have zJ := n2_; have GW347 := n3_; have zN := n4_; have zK := n5_; have zL := n6_; clear n0_ n1_ n2_ n3_ n4_ n5_ n6_; clear hb hbox hg; have zCb := zL.out; have zDb := zK.out; have zmb : w20.cell? ⟨zI, 0, none⟩ = some (.int .i64 0) := (zb zJ.out 0).trans rfl; have znb : w20.cell? ⟨zI, 1, none⟩ = some (.slice none 0 0) := (zb zJ.out 1).trans rfl; have zob := zd zJ.out 0; have zpb := zd zJ.out 1))
          go_ret
          exact ⟨by first | rfl | (simp [errW_none, errW_some] <;> rfl) | (simp [*, errW_none, errW_some] <;> rfl), by repeat (first | (with_reducible first | exact HB.out | apply zf | apply ze | apply zi | refine zc ?_ zM.out | refine zc ?_ zN.out) | exact HB.out)⟩
         ·rw [if_neg c19] at H
          have c19b0 : decide (((rd_T45 l0_1 x30_2).f0) < 0) = false := decide_eq_false c19
          clear c19
          by_cases c23 : ((rd_T45 l0_1 x30_2).f0) ≥ t345
          ·rw [if_pos c23] at H
           have c23b0 : decide (t345 ≤ ((rd_T45 l0_1 x30_2).f0)) = true := decide_eq_true c23
           clear c23
           obtain rfl := Option.some.inj H
           have p346 : 0 ≤ (x30_2 : Int) := of_decide_eq_true (by first | (with_reducible assumption) | assumption)
           have q346 : x30_2 < (l0_1.length : Int) := of_decide_eq_true (by first | (with_reducible assumption) | assumption)
           obtain ⟨ad346, A346_1, c346_1, e346, hx346_0, hx346_1, hl346_1, hi346_1⟩ := at_T45 HR0_1.out x30_2 p346 q346
           cases e346
           replace hx346_0 := zn HB.out hx346_0
           replace hx346_1 := zn HB.out hx346_1
           have HR346_1 := Aside0.mk hi346_1
           have HC346_1 := Aside0.mk hl346_1
           clear hi346_1 hl346_1
           replace p346 := eq_true p346
           replace q346 := eq_true q346
           go_wp2_with (first | ((with_reducible refine zt (N := 5) rfl ?_); (try (refine gate_guard (by rfl) ?_; dsimp only)); refine zF ?hg (N := 5) ?hd (cs := #[.int .i64 0, .slice none 0 0]) (t := 45) ?hr ?_; (case hd => rfl); (case hg => rfl); (case hr => first | (go_simp; done) | (go_simp; rfl)); intro zI hg w24 hbox hb; have n0_ := Aside0.mk (zl (g := zH) (o := .cells #[.slice A0_0 l0_0.length c0_0, .slice (some ad346) l0_1.length c0_1] 35 (0, 0)) (BL zG.out) hb); have n1_ := Aside0.mk (zk (by exact bl HB.out) hb); have n2_ := Aside0.mk (hbox); have n3_ := Aside0.mk ((by rw [hg]; exact (zm (by exact bl HB.out)) : w.heap.size ≤ zI)); have n4_ := Aside0.mk ((by rw [hg]; exact (zm (by exact bl HB.out)) : w.heap.size ≤ zI)); have n5_ := Aside0.mk ((by rw [hg]; exact Nat.ne_of_lt (zr (g := zH) (o := .cells #[.slice A0_0 l0_0.length c0_0, .slice (some ad346) l0_1.length c0_1] 35 (0, 0)) (BL zG.out)) : zH ≠ zI)); have n6_ := Aside0.mk ((by rw [hg]; exact Nat.ne_of_gt (zr (g := zH) (o := .cells #[.slice A0_0 l0_0.length c0_0, .slice (some ad346) l0_1.length c0_1] 35 (0, 0)) (BL zG.out)) : zI ≠ zH)); clear zG; clear HB; have zG := n0_; have HB := n1_; have zJ := n2_; have GW347 := n3_; have zN := n4_; have zK := n5_; have zL := n6_; clear n0_ n1_ n2_ n3_ n4_ n5_ n6_; clear hb hbox hg; have zEb := zL.out; have zFb := zK.out; have zqb : w24.cell? ⟨zI, 0, none⟩ = some (.int .i64 0) := (zb zJ.out 0).trans rfl; have zrb : w24.cell? ⟨zI, 1, none⟩ = some (.slice none 0 0) := (zb zJ.out 1).trans rfl; have zsb := zd zJ.out 0; have ztb := zd zJ.out 1))
           go_ret
           exact ⟨by first | rfl | (simp [errW_none, errW_some] <;> rfl) | (simp [*, errW_none, errW_some] <;> rfl), by repeat (first | (with_reducible first | exact HB.out | apply zf | apply ze | apply zi | refine zc ?_ zM.out | refine zc ?_ zN.out) | exact HB.out)⟩
          ·rw [if_neg c23] at H
           have c23b0 : decide (t345 ≤ ((rd_T45 l0_1 x30_2).f0)) = false := decide_eq_false c23
           clear c23
           by_cases c27 : (((rd_T45 l0_1 x30_2).f1).length : Int) = 64
           ·rw [if_pos c27] at H
            have c27b0 : ((((rd_T45 l0_1 x30_2).f1).length : Int) == 64) = true := beq_iff_eq.mpr c27
            have c27b1 : ((((rd_T45 l0_1 x30_2).f1).length : Int) != 64) = false := bne_eq_false_iff_eq.mpr c27
            clear c27
            have H' := Aside0.mk H
            clear H
            have p346 : 0 ≤ (x30_2 : Int) := of_decide_eq_true (by first | (with_reducible assumption) | assumption)
            have q346 : x30_2 < (l0_1.length : Int) := of_decide_eq_true (by first | (with_reducible assumption) | assumption)
            obtain ⟨ad346, A346_1, c346_1, e346, hx346_0, hx346_1, hl346_1, hi346_1⟩ := at_T45 HR0_1.out x30_2 p346 q346
            cases e346
            replace hx346_0 := zn HB.out hx346_0
            replace hx346_1 := zn HB.out hx346_1
            have HR346_1 := Aside0.mk hi346_1
            have HC346_1 := Aside0.mk hl346_1
            clear hi346_1 hl346_1
            replace p346 := eq_true p346
            replace q346 := eq_true q346
            go_wp2_with (first | ((with_reducible refine zt (N := 5) rfl ?_); (try (refine gate_guard (by rfl) ?_; dsimp only)); refine zF ?hg (N := 5) ?hd (cs := #[.int .i64 0, .slice none 0 0]) (t := 45) ?hr ?_; (case hd => rfl); (case hg => rfl); (case hr => first | (go_simp; done) | (go_simp; rfl)); intro zI hg w28 hbox hb; have n0_ := Aside0.mk (zl (g := zH) (o := .cells #[.slice A0_0 l0_0.length c0_0, .slice (some ad346) l0_1.length c0_1] 35 (0, 0)) (BL zG.out) hb); have n1_ := Aside0.mk (zk (by exact bl HB.out) hb); have n2_ := Aside0.mk (hbox); have n3_ := Aside0.mk ((by rw [hg]; exact (zm (by exact bl HB.out)) : w.heap.size ≤ zI)); have n4_ := Aside0.mk ((by rw [hg]; exact (zm (by exact bl HB.out)) : w.heap.size ≤ zI)); have n5_ := Aside0.mk ((by rw [hg]; exact Nat.ne_of_lt (zr (g := zH) (o := .cells #[.slice A0_0 l0_0.length c0_0, .slice (some ad346) l0_1.length c0_1] 35 (0, 0)) (BL zG.out)) : zH ≠ zI)); have n6_ := Aside0.mk ((by rw [hg]; exact Nat.ne_of_gt (zr (g := zH) (o := .cells #[.slice A0_0 l0_0.length c0_0, .slice (some ad346) l0_1.length c0_1] 35 (0, 0)) (BL zG.out)) : zI ≠ zH)); clear zG; clear HB; have zG := n0_; have HB := n1_; have zJ := n2_; have GW347 := n3_; have zN := n4_; have zK := n5_; have zL := n6_; clear n0_ n1_ n2_ n3_ n4_ n5_ n6_; clear hb hbox hg; have zGb := zL.out; have zHb := zK.out; have zub : w28.cell? ⟨zI, 0, none⟩ = some (.int .i64 0) := (zb zJ.out 0).trans rfl; have zvb : w28.cell? ⟨zI, 1, none⟩ = some (.slice none 0 0) := (zb zJ.out 1).trans rfl; have zwb := zd zJ.out 0; have zxb := zd zJ.out 1))
            go_roundg k2
            case measure => have := HJ2.out; have := HK2.out; omega
            case rel => exact ⟨(wrap64 (x30_2 + 1)), (by first | rfl | (simp; done) | (simp [*]; done)), H', ⟨by have := HJ2.out; have := HK2.out; omega⟩, ⟨by (with_reducible repeat (first | refine zj ?_ _ | refine zg ?_ | refine zh ?_ _)); refine zE ?_ zK.out _; (with_reducible repeat (first | refine zj ?_ _ | refine zg ?_ | refine zh ?_ _)); refine zE ?_ zK.out _; (with_reducible repeat (first | refine zj ?_ _ | refine zg ?_ | refine zh ?_ _)); exact zG.out⟩, ⟨by repeat (first | (with_reducible first | exact HB.out | apply zf | apply ze | apply zi | refine zc ?_ zM.out | refine zc ?_ zN.out) | exact HB.out)⟩⟩
           ·rw [if_neg c27] at H
            have c27b0 : ((((rd_T45 l0_1 x30_2).f1).length : Int) == 64) = false := beq_eq_false_iff_ne.mpr c27
            have c27b1 : ((((rd_T45 l0_1 x30_2).f1).length : Int) != 64) = true := bne_iff_ne.mpr c27
            obtain rfl := Option.some.inj H
            have p346 : 0 ≤ (x30_2 : Int) := of_decide_eq_true (by first | (with_reducible assumption) | assumption)
            have q346 : x30_2 < (l0_1.length : Int) := of_decide_eq_true (by first | (with_reducible assumption) | assumption)
            obtain ⟨ad346, A346_1, c346_1, e346, hx346_0, hx346_1, hl346_1, hi346_1⟩ := at_T45 HR0_1.out x30_2 p346 q346
            cases e346
            replace hx346_0 := zn HB.out hx346_0
            replace hx346_1 := zn HB.out hx346_1
            have HR346_1 := Aside0.mk hi346_1
            have HC346_1 := Aside0.mk hl346_1
            clear hi346_1 hl346_1
            replace p346 := eq_true p346
            replace q346 := eq_true q346
            go_wp2_with (first | ((with_reducible refine zt (N := 5) rfl ?_); (try (refine gate_guard (by rfl) ?_; dsimp only)); refine zF ?hg (N := 5) ?hd (cs := #[.int .i64 0, .slice none 0 0]) (t := 45) ?hr ?_; (case hd => rfl); (case hg => rfl); (case hr => first | (go_simp; done) | (go_simp; rfl)); intro zI hg w31 hbox hb; have n0_ := Aside0.mk (zl (g := zH) (o := .cells #[.slice A0_0 l0_0.length c0_0, .slice (some ad346) l0_1.length c0_1] 35 (0, 0)) (BL zG.out) hb); have n1_ := Aside0.mk (zk (by exact bl HB.out) hb); have n2_ := Aside0.mk (hbox); have n3_ := Aside0.mk ((by rw [hg]; exact (zm (by exact bl HB.out)) : w.heap.size ≤ zI)); have n4_ := Aside0.mk ((by rw [hg]; exact (zm (by exact bl HB.out)) : w.heap.size ≤ zI)); have n5_ := Aside0.mk ((by rw [hg]; exact Nat.ne_of_lt (zr (g := zH) (o := .cells #[.slice A0_0 l0_0.length c0_0, .slice (some ad346) l0_1.length c0_1] 35 (0, 0)) (BL zG.out)) : zH ≠ zI)); have n6_ := Aside0.mk ((by rw [hg]; exact Nat.ne_of_gt (zr (g := zH) (o := .cells #[.slice A0_0 l0_0.length c0_0, .slice (some ad346) l0_1.length c0_1] 35 (0, 0)) (BL zG.out)) : zI ≠ zH)); clear zG; clear HB; have zG := n0_; have HB := n1_; have zJ := n2_; have GW347 := n3_; have zN := n4_; have zK := n5_; have zL := n6_; clear n0_ n1_ n2_ n3_ n4_ n5_ n6_; clear hb hbox hg; have zIb := zL.out; have zJb := zK.out; have zyb : w31.cell? ⟨zI, 0, none⟩ = some (.int .i64 0) := (zb zJ.out 0).trans rfl; have zzb : w31.cell? ⟨zI, 1, none⟩ = some (.slice none 0 0) := (zb zJ.out 1).trans rfl; have zAb := zd zJ.out 0; have zBb := zd zJ.out 1))
            go_ret
            exact ⟨by first | rfl | (simp [errW_none, errW_some] <;> rfl) | (simp [*, errW_none, errW_some] <;> rfl), by repeat (first | (with_reducible first | exact HB.out | apply zf | apply ze | apply zi | refine zc ?_ zM.out | refine zc ?_ zN.out) | exact HB.out)⟩
        ·rw [if_neg c18] at H
         exact absurd H (by simp)
       ·rw [if_neg c17] at H
        exact absurd H (by simp)
      ·rw [if_neg c16] at H
       have c16b0 : decide (x30_2 < (l0_1.length : Int)) = false := decide_eq_false c16
       clear c16
       obtain rfl := Option.some.inj H
       go_wp2
       go_ret
       exact ⟨by first | rfl | (simp [errW_none, errW_some] <;> rfl) | (simp [*, errW_none, errW_some] <;> rfl), by repeat (first | (with_reducible first | exact HB.out | apply zf | apply ze | apply zi | refine zc ?_ zM.out) | exact HB.out)⟩

def slices_Clone_byte_byte.f (l0 : List Int) : Option (List Int) := (some (([] : List Int) : List Int)).bind fun y348 => (if y348.length + l0.length < 140737488355328 then (some (y348 ++ l0)) else (none))
set_option maxHeartbeats 8000000 in
set_option maxRecDepth 100000 in
theorem slices_Clone_byte_byte.calls (A0 : Option Addr) (c0 : Nat) (l0 : List Int) (r : List Int) (w : World) (hr0 : Kd.C (Kd.int .u8) w A0 l0.length l0) (hc0 : l0.length ≤ c0) (h : slices_Clone_byte_byte.f l0 = some r) :
  Calls Try.prog 67 #[.slice A0 l0.length c0] w fun e w' => ∃ v0_ : Value, e = .returned (v0_) ∧ Kd.R (Kd.int .u8) 5 w' w.heap.size (fun _ => True) v0_ r ∧ Below w.heap.size w w' := by
 rcases A0 with _ | ad0
 ·obtain rfl : l0 = [] := by
   rcases Nat.eq_zero_or_pos l0.length with h0_ | h0_
   ·exact List.eq_nil_of_length_eq_zero h0_
   ·obtain ⟨_, h2_, _⟩ := hr0.2.2 h0_
    cases h2_
  obtain rfl : r = [] := by
   have h2_ : (some ([] : List Int)) = some r := h
   exact (Option.some.inj h2_).symm
  have heq_ := fun (W : World) => Lib.run_eql_slice_nil (P := Try.prog) W 22 5 none 0 c0 0 0 Try.underlying22
  clear h hr0 hc0
  go_enter Try.func67, Try.ntmps67
  go_wp2
  go_ret
  exact ⟨_, rfl, Kd.R_nil _ _ _ _ _, Below.refl _ _⟩
 have heq_ := fun (W : World) => Lib.run_eql_slice_nil (P := Try.prog) W 22 5 (some ad0) l0.length c0 0 0 Try.underlying22
 have HR0 := Aside0.mk hr0
 have HC0 := Aside0.mk hc0
 clear hr0 hc0
 have HB := Aside0.mk (Below.refl w.heap.size w)
 have H : ((some (([] : List Int) : List Int)).bind fun y348 => (if y348.length + l0.length < 140737488355328 then (some (y348 ++ l0)) else (none))) = some r := h
 clear h
 obtain ⟨y348, hy348⟩ : ∃ y_ : List Int, y_ = (([] : List Int)) := ⟨_, rfl⟩
 replace H : (if y348.length + l0.length < 140737488355328 then (some (y348 ++ l0)) else (none)) = some r := by first | (rw [hy348]; with_reducible exact H) | (have H2_ := (Option.bind_some _ _).symm.trans H; rw [hy348]; with_reducible exact H2_) | (have H2_ := (Option.bind_some _ _).symm.trans H; with_reducible exact H2_) | with_reducible exact H | (rw [hy348]; exact H) | exact H
 have Ny348 := Aside0.mk hy348
 clear hy348
 by_cases c2 : y348.length + l0.length < 140737488355328
 ·rw [if_pos c2] at H
  have LMc2 := Aside0.mk c2
  clear c2
  obtain ⟨y351, hy351⟩ : ∃ y_ : List Int, y_ = (y348 ++ l0) := ⟨_, rfl⟩
  replace H : (some y351) = some r := by first | (rw [hy351]; with_reducible exact H) | (have H2_ := (Option.bind_some _ _).symm.trans H; rw [hy351]; with_reducible exact H2_) | (have H2_ := (Option.bind_some _ _).symm.trans H; with_reducible exact H2_) | with_reducible exact H | (rw [hy351]; exact H) | exact H
  have Ny351 := Aside0.mk hy351
  clear hy351
  obtain rfl := Option.some.inj H
  go_enter Try.func67, Try.ntmps67
  go_wp2_with (first | ((with_reducible refine zt (N := 5) rfl ?_); refine Kd.R_lit (Kd.int .u8) _ 5 ?hg (N := 5) ?hd (xs := ([] : List Int)) (inner := []) (ok := fun _ => True) (okp := fun _ => True) ?hr ?hp (fun _ hk => hk) trivial (Below.refl _ _) (Nat.le_refl _) (by simp) ?_; (case hd => rfl); (case hg => rfl); (case hr => first | (go_simp; done) | (go_simp; rfl)); (case hp => exact (Reps.none _ _)); intro v349 w3 zG hb hg_ hnew_; clear hg_ hnew_; (first | rw [← Ny348.out] at zG | (simp only [Int.reduceToNat] at zG; rw [← Ny348.out] at zG)); have n0_ := Aside0.mk (Kd.R_lower zG (zm (by exact bl HB.out))); have n1_ := Aside0.mk (zk (by exact bl HB.out) hb); clear HB; have zH := n0_; have HB := n1_; clear n0_ n1_; clear hb zG) | ((with_reducible refine gate_builtin (b := .append) (xs := #[.tmp 5, .tmp 6]) rfl ?_); at_builtin; refine Kd.R_append_rows (Kd.int .u8) (w0 := w) w.heap.size rfl (.tmp 5) (.tmp 6) 22 5 (.int .u8 0) 1 rfl Try.underlying22 info5 rfl (by decide) (by omega) v349 y348 l0 _ _ _ (fun _ => True) (fun _ => False) rfl rfl ?aO ?aR (fun _ _ h => h) (fun _ h => h.elim) ?aF ?aB ?aS ?aL ?_; (case aR => repeat (first | exact (Kd.C_below HR0.out HB.out) | (with_reducible refine Kd.C_alloc ?_ _) | (with_reducible refine Kd.C_drewN ?_ _) | (with_reducible refine Kd.C_drew ?_))); (case aB => exact (by exact bl HB.out)); (case aF => exact (fun _ _ => trivial)); (case aO => exact (RL zH.out)); (case aS => exact (zm (by exact bl HB.out))); (case aL => have := LMc2.out; omega); intro v352 w5 ho hb hg hat; rw [← Ny351.out] at ho; have n0_ := Aside0.mk (hb); have n1_ := Aside0.mk (ho); clear HB; clear zH; have HB := n0_; have zI := n1_; clear n0_ n1_; clear ho hb hg hat))
  go_ret
  exact ⟨_, by first | rfl | (simp [errW_none, errW_some] <;> rfl) | (simp [*, errW_none, errW_some] <;> rfl), RL zI.out, by repeat (first | (with_reducible first | exact HB.out | apply zf | apply ze | apply zi) | exact HB.out)⟩
 ·rw [if_neg c2] at H
  exact absurd H (by simp)

end Go.Proofs.Ytejecjjimggjeaa.GFnSync
