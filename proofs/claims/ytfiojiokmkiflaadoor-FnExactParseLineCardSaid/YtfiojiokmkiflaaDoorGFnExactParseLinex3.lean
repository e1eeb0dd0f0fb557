/- Written by give.py, a program of this session, that runs the kit's print and lays contracts proved by hand beside it. -/
import Derived.Test.YtfiojiokmkiflaaDoorGFnExactParseLinex0
import Derived.Test.YtfiojiokmkiflaaDoorHStep
import Derived.Test.YtfiojiokmkiflaaDoorGFnExactParseLinex1
import Derived.Test.YtfiojiokmkiflaaDoorGFnExactParseLinex2
namespace Go.Proofs.YtfiojiokmkiflaaDoor.GFnExactParseLine
open Go.Proofs.YtfiojiokmkiflaaDoorH (pu po ta pt ps p0 p1 bfin)
open Go.RowKit Go.Proofs.YtfiojiokmkiflaaDoorW.PrintWords Go.Proofs.YtfiojiokmkiflaaDoorW.PrintLast Go.Proofs.YtfiojiokmkiflaaDoorW.PrintMore
attribute [local go_sem] max2_int min2_int max_two min_two max_three min_three max_four min_four
attribute [local go_sem high] Go.Proofs.YtfiojiokmkiflaaDoorH.str_leq Go.Proofs.YtfiojiokmkiflaaDoorH.str_geq Go.Proofs.YtfiojiokmkiflaaDoorH.str_gtr   -- for this text's walks alone
set_option linter.unusedVariables false
set_option linter.unusedSimpArgs false

mutual
def spec_ParseLine.j0 : Nat → List ByteArray → Option (Int × (List (S124)) × Bool × ByteArray × List Int)
 | 0, _ => none
 | k + 1, x3 => if (x3.length : Int) = 2 then (if 0 < (x3.length : Int) then (spec_ParseLine.j1 k x3 ((rdOf ByteArray.empty x3 0).toList == ([103, 101, 116] : List UInt8))) else (none)) else (spec_ParseLine.j1 k x3 false)
def spec_ParseLine.j1 : Nat → List ByteArray → Bool → Option (Int × (List (S124)) × Bool × ByteArray × List Int)
 | 0, _, _ => none
 | k + 1, x3, x74 => if x74 = true then (if 1 < (x3.length : Int) then (some (3, ([] : List (S124)), false, rdOf ByteArray.empty x3 1, ([] : List Int))) else (none)) else (if (x3.length : Int) = 2 then (if 0 < (x3.length : Int) then (spec_ParseLine.j2 k x3 ((rdOf ByteArray.empty x3 0).toList == ([108, 105, 115, 116] : List UInt8))) else (none)) else (spec_ParseLine.j2 k x3 false))
def spec_ParseLine.j2 : Nat → List ByteArray → Bool → Option (Int × (List (S124)) × Bool × ByteArray × List Int)
 | 0, _, _ => none
 | k + 1, x3, x87 => if x87 = true then (if 1 < (x3.length : Int) then (some (4, ([] : List (S124)), false, rdOf ByteArray.empty x3 1, ([] : List Int))) else (none)) else (if 1 ≤ (x3.length : Int) then ((spec_l6Nums.f k (x3.drop 1)).bind fun bt223 => (if bt223.2 = true then (if 0 < (x3.length : Int) then (if (rdOf ByteArray.empty x3 0).toList = ([115, 116, 101, 112] : List UInt8) then (if (bt223.1.length : Int) = 1 then (if 0 < (bt223.1.length : Int) then ((spec_l6Between.f (rd bt223.1 0) 1 1000).bind fun t229 => (spec_ParseLine.j3 k x3 bt223.1 t229)) else (none)) else (spec_ParseLine.j3 k x3 bt223.1 false)) else (spec_ParseLine.j3 k x3 bt223.1 false)) else (none)) else (some (0, ([] : List (S124)), false, (⟨#[]⟩ : ByteArray), ([] : List Int))))) else (none))
def spec_ParseLine.j3 : Nat → List ByteArray → List Int → Bool → Option (Int × (List (S124)) × Bool × ByteArray × List Int)
 | 0, _, _, _ => none
 | k + 1, x3, x8, x115 => if x115 = true then (some (7, ([] : List (S124)), false, (⟨#[]⟩ : ByteArray), x8)) else (if 0 < (x3.length : Int) then (if (rdOf ByteArray.empty x3 0).toList = ([97, 114, 109] : List UInt8) then (if (x8.length : Int) ≥ 1 then (if 0 < (x8.length : Int) then ((spec_l6Between.f (rd x8 0) 1 10000).bind fun t232 => (spec_ParseLine.j4 k x3 x8 t232)) else (none)) else (spec_ParseLine.j4 k x3 x8 false)) else (spec_ParseLine.j4 k x3 x8 false)) else (none))
def spec_ParseLine.j4 : Nat → List ByteArray → List Int → Bool → Option (Int × (List (S124)) × Bool × ByteArray × List Int)
 | 0, _, _, _ => none
 | k + 1, x3, x8, x132 => if x132 = true then (some (8, ([] : List (S124)), false, (⟨#[]⟩ : ByteArray), x8)) else (if 0 < (x3.length : Int) then (if (rdOf ByteArray.empty x3 0).toList = ([99, 114, 97, 115, 104] : List UInt8) then (some (9, ([] : List (S124)), false, (⟨#[]⟩ : ByteArray), x8)) else (if (rdOf ByteArray.empty x3 0).toList = ([114, 111, 116] : List UInt8) then (if (x8.length : Int) = 3 then (if 0 < (x8.length : Int) then ((spec_l6Between.f (rd x8 0) 0 1).bind fun t236 => (if t236 = true then (if 1 < (x8.length : Int) then ((spec_l6Between.f (rd x8 1) 0 4095).bind fun t238 => (if t238 = true then (if 2 < (x8.length : Int) then ((spec_l6Between.f (rd x8 2) 1 255).bind fun t240 => (if t240 = true then (some (10, ([] : List (S124)), false, (⟨#[]⟩ : ByteArray), x8)) else (some (0, ([] : List (S124)), false, (⟨#[]⟩ : ByteArray), ([] : List Int))))) else (none)) else (some (0, ([] : List (S124)), false, (⟨#[]⟩ : ByteArray), ([] : List Int))))) else (none)) else (some (0, ([] : List (S124)), false, (⟨#[]⟩ : ByteArray), ([] : List Int))))) else (none)) else (some (0, ([] : List (S124)), false, (⟨#[]⟩ : ByteArray), ([] : List Int)))) else (some (0, ([] : List (S124)), false, (⟨#[]⟩ : ByteArray), ([] : List Int))))) else (none))
end
def spec_ParseLine.f (k : Nat) (l0 : List Int) : Option (Int × (List (S124)) × Bool × ByteArray × List Int) := if (l0.length : Int) > 60000 then (some (0, ([] : List (S124)), false, (⟨#[]⟩ : ByteArray), ([] : List Int))) else ((spec_l6Fields.f k l0).bind fun t192 => (if (t192.length : Int) = 0 then (some (0, ([] : List (S124)), false, (⟨#[]⟩ : ByteArray), ([] : List Int))) else (if 0 < (t192.length : Int) then (if (rdOf ByteArray.empty t192 0).toList = ([109, 117, 108, 116, 105] : List UInt8) then (if 1 ≤ (t192.length : Int) then ((spec_l6Ops.f k (t192.drop 1)).bind fun bt200 => (if bt200.2 = true then (some (1, bt200.1, true, (⟨#[]⟩ : ByteArray), ([] : List Int))) else (some (0, ([] : List (S124)), false, (⟨#[]⟩ : ByteArray), ([] : List Int))))) else (none)) else ((spec_l6Op.f k t192).bind fun bt204 => (if bt204.2.2.2.2.2 = true then (some (1, (([(⟨bt204.1, bt204.2.1, bt204.2.2.1, bt204.2.2.2.1, bt204.2.2.2.2.1⟩ : S124)] : List (S124))), false, (⟨#[]⟩ : ByteArray), ([] : List Int))) else (if (t192.length : Int) = 1 then (if (rdOf ByteArray.empty t192 0).toList = ([102, 108, 117, 115, 104] : List UInt8) then (some (2, ([] : List (S124)), false, (⟨#[]⟩ : ByteArray), ([] : List Int))) else (if (rdOf ByteArray.empty t192 0).toList = ([100, 117, 109, 112] : List UInt8) then (some (5, ([] : List (S124)), false, (⟨#[]⟩ : ByteArray), ([] : List Int))) else (if (rdOf ByteArray.empty t192 0).toList = ([115, 110, 97, 112] : List UInt8) then (some (6, ([] : List (S124)), false, (⟨#[]⟩ : ByteArray), ([] : List Int))) else (if (rdOf ByteArray.empty t192 0).toList = ([114, 101, 99, 111, 118, 101, 114] : List UInt8) then (some (11, ([] : List (S124)), false, (⟨#[]⟩ : ByteArray), ([] : List Int))) else (if (rdOf ByteArray.empty t192 0).toList = ([115, 116, 97, 116, 117, 115] : List UInt8) then (some (12, ([] : List (S124)), false, (⟨#[]⟩ : ByteArray), ([] : List Int))) else (spec_ParseLine.j0 k t192)))))) else (spec_ParseLine.j0 k t192))))) else (none))))
theorem spec_ParseLine.mono_l : ∀ k, (∀ y0, LeO (spec_ParseLine.j0 k y0) (spec_ParseLine.j0 (k + 1) y0)) ∧ (∀ y0 y1, LeO (spec_ParseLine.j1 k y0 y1) (spec_ParseLine.j1 (k + 1) y0 y1)) ∧ (∀ y0 y1, LeO (spec_ParseLine.j2 k y0 y1) (spec_ParseLine.j2 (k + 1) y0 y1)) ∧ (∀ y0 y1 y2, LeO (spec_ParseLine.j3 k y0 y1 y2) (spec_ParseLine.j3 (k + 1) y0 y1 y2)) ∧ (∀ y0 y1 y2, LeO (spec_ParseLine.j4 k y0 y1 y2) (spec_ParseLine.j4 (k + 1) y0 y1 y2))
 | 0 => ⟨fun _ r h => by simp [spec_ParseLine.j0] at h, fun _ _ r h => by simp [spec_ParseLine.j1] at h, fun _ _ r h => by simp [spec_ParseLine.j2] at h, fun _ _ _ r h => by simp [spec_ParseLine.j3] at h, fun _ _ _ r h => by simp [spec_ParseLine.j4] at h⟩
 | k + 1 => by
  obtain ⟨ih0, ih1, ih2, ih3, ih4⟩ := spec_ParseLine.mono_l k
  refine ⟨?_, ?_, ?_, ?_, ?_⟩
  ·intro y0
   unfold spec_ParseLine.j0
   repeat' first
   | (with_reducible exact ih0 _)
   | (with_reducible exact ih1 _ _)
   | (with_reducible exact ih2 _ _)
   | (with_reducible exact ih3 _ _ _)
   | (with_reducible exact ih4 _ _ _)
   | (with_reducible exact spec_l6Fields.mono _ _)
   | (with_reducible exact spec_l6Nums.mono _ _)
   | (with_reducible exact spec_l6Op.mono _ _)
   | (with_reducible exact spec_l6Ops.mono _ _)
   | (with_reducible exact LeO.refl _)
   | (with_reducible exact LeO.none _)
   | (with_reducible refine LeO.ite ?_ ?_)
   | (with_reducible refine LeO.bind ?_ (fun _ => ?_))
   | exact ih0 _
   | exact ih1 _ _
   | exact ih2 _ _
   | exact ih3 _ _ _
   | exact ih4 _ _ _
   | exact spec_l6Fields.mono _ _
   | exact spec_l6Nums.mono _ _
   | exact spec_l6Op.mono _ _
   | exact spec_l6Ops.mono _ _
   | exact LeO.none _
   | refine LeO.ite ?_ ?_
   | refine LeO.bind ?_ (fun _ => ?_)
  ·intro y0 y1
   unfold spec_ParseLine.j1
   repeat' first
   | (with_reducible exact ih0 _)
   | (with_reducible exact ih1 _ _)
   | (with_reducible exact ih2 _ _)
   | (with_reducible exact ih3 _ _ _)
   | (with_reducible exact ih4 _ _ _)
   | (with_reducible exact spec_l6Fields.mono _ _)
   | (with_reducible exact spec_l6Nums.mono _ _)
   | (with_reducible exact spec_l6Op.mono _ _)
   | (with_reducible exact spec_l6Ops.mono _ _)
   | (with_reducible exact LeO.refl _)
   | (with_reducible exact LeO.none _)
   | (with_reducible refine LeO.ite ?_ ?_)
   | (with_reducible refine LeO.bind ?_ (fun _ => ?_))
   | exact ih0 _
   | exact ih1 _ _
   | exact ih2 _ _
   | exact ih3 _ _ _
   | exact ih4 _ _ _
   | exact spec_l6Fields.mono _ _
   | exact spec_l6Nums.mono _ _
   | exact spec_l6Op.mono _ _
   | exact spec_l6Ops.mono _ _
   | exact LeO.none _
   | refine LeO.ite ?_ ?_
   | refine LeO.bind ?_ (fun _ => ?_)
  ·intro y0 y1
   unfold spec_ParseLine.j2
   repeat' first
   | (with_reducible exact ih0 _)
   | (with_reducible exact ih1 _ _)
   | (with_reducible exact ih2 _ _)
   | (with_reducible exact ih3 _ _ _)
   | (with_reducible exact ih4 _ _ _)
   | (with_reducible exact spec_l6Fields.mono _ _)
   | (with_reducible exact spec_l6Nums.mono _ _)
   | (with_reducible exact spec_l6Op.mono _ _)
   | (with_reducible exact spec_l6Ops.mono _ _)
   | (with_reducible exact LeO.refl _)
   | (with_reducible exact LeO.none _)
   | (with_reducible refine LeO.ite ?_ ?_)
   | (with_reducible refine LeO.bind ?_ (fun _ => ?_))
   | exact ih0 _
   | exact ih1 _ _
   | exact ih2 _ _
   | exact ih3 _ _ _
   | exact ih4 _ _ _
   | exact spec_l6Fields.mono _ _
   | exact spec_l6Nums.mono _ _
   | exact spec_l6Op.mono _ _
   | exact spec_l6Ops.mono _ _
   | exact LeO.none _
   | refine LeO.ite ?_ ?_
   | refine LeO.bind ?_ (fun _ => ?_)
  ·intro y0 y1 y2
   unfold spec_ParseLine.j3
   repeat' first
   | (with_reducible exact ih0 _)
   | (with_reducible exact ih1 _ _)
   | (with_reducible exact ih2 _ _)
   | (with_reducible exact ih3 _ _ _)
   | (with_reducible exact ih4 _ _ _)
   | (with_reducible exact spec_l6Fields.mono _ _)
   | (with_reducible exact spec_l6Nums.mono _ _)
   | (with_reducible exact spec_l6Op.mono _ _)
   | (with_reducible exact spec_l6Ops.mono _ _)
   | (with_reducible exact LeO.refl _)
   | (with_reducible exact LeO.none _)
   | (with_reducible refine LeO.ite ?_ ?_)
   | (with_reducible refine LeO.bind ?_ (fun _ => ?_))
   | exact ih0 _
   | exact ih1 _ _
   | exact ih2 _ _
   | exact ih3 _ _ _
   | exact ih4 _ _ _
   | exact spec_l6Fields.mono _ _
   | exact spec_l6Nums.mono _ _
   | exact spec_l6Op.mono _ _
   | exact spec_l6Ops.mono _ _
   | exact LeO.none _
   | refine LeO.ite ?_ ?_
   | refine LeO.bind ?_ (fun _ => ?_)
  ·intro y0 y1 y2
   unfold spec_ParseLine.j4
   repeat' first
   | (with_reducible exact ih0 _)
   | (with_reducible exact ih1 _ _)
   | (with_reducible exact ih2 _ _)
   | (with_reducible exact ih3 _ _ _)
   | (with_reducible exact ih4 _ _ _)
   | (with_reducible exact spec_l6Fields.mono _ _)
   | (with_reducible exact spec_l6Nums.mono _ _)
   | (with_reducible exact spec_l6Op.mono _ _)
   | (with_reducible exact spec_l6Ops.mono _ _)
   | (with_reducible exact LeO.refl _)
   | (with_reducible exact LeO.none _)
   | (with_reducible refine LeO.ite ?_ ?_)
   | (with_reducible refine LeO.bind ?_ (fun _ => ?_))
   | exact ih0 _
   | exact ih1 _ _
   | exact ih2 _ _
   | exact ih3 _ _ _
   | exact ih4 _ _ _
   | exact spec_l6Fields.mono _ _
   | exact spec_l6Nums.mono _ _
   | exact spec_l6Op.mono _ _
   | exact spec_l6Ops.mono _ _
   | exact LeO.none _
   | refine LeO.ite ?_ ?_
   | refine LeO.bind ?_ (fun _ => ?_)
theorem spec_ParseLine.mono : ∀ a0 k, LeO (spec_ParseLine.f k a0) (spec_ParseLine.f (k + 1) a0) := by
 intro a0 k
 obtain ⟨ih0, ih1, ih2, ih3, ih4⟩ := spec_ParseLine.mono_l k
 unfold spec_ParseLine.f
 repeat' first
   | (with_reducible exact ih0 _)
   | (with_reducible exact ih1 _ _)
   | (with_reducible exact ih2 _ _)
   | (with_reducible exact ih3 _ _ _)
   | (with_reducible exact ih4 _ _ _)
   | (with_reducible exact spec_l6Fields.mono _ _)
   | (with_reducible exact spec_l6Nums.mono _ _)
   | (with_reducible exact spec_l6Op.mono _ _)
   | (with_reducible exact spec_l6Ops.mono _ _)
   | (with_reducible exact LeO.refl _)
   | (with_reducible exact LeO.none _)
   | (with_reducible refine LeO.ite ?_ ?_)
   | (with_reducible refine LeO.bind ?_ (fun _ => ?_))
   | exact ih0 _
   | exact ih1 _ _
   | exact ih2 _ _
   | exact ih3 _ _ _
   | exact ih4 _ _ _
   | exact spec_l6Fields.mono _ _
   | exact spec_l6Nums.mono _ _
   | exact spec_l6Op.mono _ _
   | exact spec_l6Ops.mono _ _
   | exact LeO.none _
   | refine LeO.ite ?_ ?_
   | refine LeO.bind ?_ (fun _ => ?_)
set_option maxHeartbeats 8000000 in
set_option maxRecDepth 100000 in
theorem spec_ParseLine.calls (k : Nat) (A0 : Option Addr) (c0 : Nat) (l0 : List Int) (r1 : Int) (r2 : List (S124)) (r3 : Bool) (r4 : ByteArray) (r5 : List Int) (w : World) (hr0 : Kd.C (Kd.int .u8) w A0 l0.length l0) (hc0 : l0.length ≤ c0) (h : spec_ParseLine.f k l0 = some (r1, r2, r3, r4, r5)) :
  Calls Tryd.prog 27 #[.slice A0 l0.length c0] w fun e w' => ∃ v1_ v4_ : Value, e = .returned (.agg #[.int .i64 r1, v1_, .bool r3, .string r4, v4_]) ∧ Kd.R k124 124 w' w.heap.size (fun _ => True) v1_ r2 ∧ Kd.R (Kd.int .i64) 2 w' w.heap.size (fun _ => True) v4_ r5 ∧ Below w.heap.size w w' := by
 have hu66 := Tryd.underlying66
 have hu63 := Tryd.underlying63
 have hu124 := Tryd.underlying124
 have HR0 := Aside0.mk hr0
 have HC0 := Aside0.mk hc0
 clear hr0 hc0
 have HB := Aside0.mk (Below.refl w.heap.size w)
 have H : (if (l0.length : Int) > 60000 then (some (0, ([] : List (S124)), false, (⟨#[]⟩ : ByteArray), ([] : List Int))) else ((spec_l6Fields.f k l0).bind fun t192 => (if (t192.length : Int) = 0 then (some (0, ([] : List (S124)), false, (⟨#[]⟩ : ByteArray), ([] : List Int))) else (if 0 < (t192.length : Int) then (if (rdOf ByteArray.empty t192 0).toList = ([109, 117, 108, 116, 105] : List UInt8) then (if 1 ≤ (t192.length : Int) then ((spec_l6Ops.f k (t192.drop 1)).bind fun bt200 => (if bt200.2 = true then (some (1, bt200.1, true, (⟨#[]⟩ : ByteArray), ([] : List Int))) else (some (0, ([] : List (S124)), false, (⟨#[]⟩ : ByteArray), ([] : List Int))))) else (none)) else ((spec_l6Op.f k t192).bind fun bt204 => (if bt204.2.2.2.2.2 = true then (some (1, (([(⟨bt204.1, bt204.2.1, bt204.2.2.1, bt204.2.2.2.1, bt204.2.2.2.2.1⟩ : S124)] : List (S124))), false, (⟨#[]⟩ : ByteArray), ([] : List Int))) else (if (t192.length : Int) = 1 then (if (rdOf ByteArray.empty t192 0).toList = ([102, 108, 117, 115, 104] : List UInt8) then (some (2, ([] : List (S124)), false, (⟨#[]⟩ : ByteArray), ([] : List Int))) else (if (rdOf ByteArray.empty t192 0).toList = ([100, 117, 109, 112] : List UInt8) then (some (5, ([] : List (S124)), false, (⟨#[]⟩ : ByteArray), ([] : List Int))) else (if (rdOf ByteArray.empty t192 0).toList = ([115, 110, 97, 112] : List UInt8) then (some (6, ([] : List (S124)), false, (⟨#[]⟩ : ByteArray), ([] : List Int))) else (if (rdOf ByteArray.empty t192 0).toList = ([114, 101, 99, 111, 118, 101, 114] : List UInt8) then (some (11, ([] : List (S124)), false, (⟨#[]⟩ : ByteArray), ([] : List Int))) else (if (rdOf ByteArray.empty t192 0).toList = ([115, 116, 97, 116, 117, 115] : List UInt8) then (some (12, ([] : List (S124)), false, (⟨#[]⟩ : ByteArray), ([] : List Int))) else (spec_ParseLine.j0 k t192)))))) else (spec_ParseLine.j0 k t192))))) else (none))))) = some (r1, r2, r3, r4, r5) := h
 clear h
 by_cases c2 : (l0.length : Int) > 60000
 ·rw [if_pos c2] at H
  have c2b0 : decide (60000 < (l0.length : Int)) = true := decide_eq_true c2
  have c2b1 : decide (60000 < l0.length) = true := decide_eq_true (by omega)
  clear c2
  simp only [Option.some.injEq, Prod.mk.injEq] at H
  obtain ⟨rfl, rfl, rfl, rfl, rfl⟩ := H
  go_enter Tryd.func27, Tryd.ntmps27
  go_wp2_with (first | ((with_reducible refine zu (N := 2) rfl ?_); (try (refine gate_guard (by rfl) ?_; dsimp only)); refine zz ?hg (N := 2) ?hd (cs := #[.int .i64 0, .slice none 0 0, .bool false, .string (⟨#[]⟩ : ByteArray), .slice none 0 0]) (t := 66) ?hr ?_; (case hd => rfl); (case hg => rfl); (case hr => first | (go_simp; done) | (go_simp; rfl)); intro zD hg w3 hbox hb; have n0_ := Aside0.mk (zm (by exact bl HB.out) hb); have n1_ := Aside0.mk (hbox); have n2_ := Aside0.mk ((by rw [hg]; exact (zn (by exact bl HB.out)) : w.heap.size ≤ zD)); have n3_ := Aside0.mk ((by rw [hg]; exact (zn (by exact bl HB.out)) : w.heap.size ≤ zD)); clear HB; have HB := n0_; have zC := n1_; have GW191 := n2_; have zK := n3_; clear n0_ n1_ n2_ n3_; clear hb hbox hg; have zVc : w3.cell? ⟨zD, 0, none⟩ = some (.int .i64 0) := (zc zC.out 0).trans rfl; have zWc : w3.cell? ⟨zD, 1, none⟩ = some (.slice none 0 0) := (zc zC.out 1).trans rfl; have zXc : w3.cell? ⟨zD, 2, none⟩ = some (.bool false) := (zc zC.out 2).trans rfl; have zYc : w3.cell? ⟨zD, 3, none⟩ = some (.string (⟨#[]⟩ : ByteArray)) := (zc zC.out 3).trans rfl; have zZc : w3.cell? ⟨zD, 4, none⟩ = some (.slice none 0 0) := (zc zC.out 4).trans rfl; have zad := zb zC.out 0; have zbd := zb zC.out 1; have zcd := zb zC.out 2; have zdd := zb zC.out 3; have zed := zb zC.out 4))
  refine bodyPost_ret (results_cell_row rfl _ _ zD 66 #[.int .i64 0, .slice none 0 0, .bool false, .string (⟨#[]⟩ : ByteArray), .slice none 0 0] (0, 0) _ rfl (bfin (by (repeat (first | (with_reducible first | refine zf ?_ _ | refine zj ?_ | refine ze ?_ _) | apply zA)); exact zC.out) (by rfl)) Tryd.underlying66 rfl (by kernel_rfl)) rfl ?_
  exact ⟨_, _, by first | rfl | (simp [*] <;> rfl), by first | exact Kd.R_nil _ _ _ _ _ | exact Kd.N_nil _ _ _ _ _ | exact Kd.V_nil _ _ _ _ _ | exact Kd.Q_nil _ _ _ _ _ | exact Kd.S_nil _ _ _ _ _, by first | exact Kd.R_nil _ _ _ _ _ | exact Kd.N_nil _ _ _ _ _ | exact Kd.V_nil _ _ _ _ _ | exact Kd.Q_nil _ _ _ _ _ | exact Kd.S_nil _ _ _ _ _, by repeat (first | (with_reducible first | exact HB.out | apply zh | apply zd | apply zi | refine zl ?_ zK.out) | exact HB.out)⟩
 ·rw [if_neg c2] at H
  have c2b0 : decide (60000 < (l0.length : Int)) = false := decide_eq_false c2
  have c2b1 : decide (60000 < l0.length) = false := decide_eq_false (by omega)
  clear c2
  replace H := Option.bind_eq_some_iff.mp H
  obtain ⟨t192, A50, H⟩ := H
  try dsimp only at H
  have A5 := Aside0.mk A50
  clear A50
  by_cases c6 : (t192.length : Int) = 0
  ·rw [if_pos c6] at H
   have c6b0 : ((t192.length : Int) == 0) = true := beq_iff_eq.mpr c6
   have c6b1 : ((t192.length : Int) != 0) = false := bne_eq_false_iff_eq.mpr c6
   clear c6
   simp only [Option.some.injEq, Prod.mk.injEq] at H
   obtain ⟨rfl, rfl, rfl, rfl, rfl⟩ := H
   go_enter Tryd.func27, Tryd.ntmps27
   go_wp2_with (first | ((with_reducible refine zu (N := 2) rfl ?_); (try (refine gate_guard (by rfl) ?_; dsimp only)); refine zz ?hg (N := 2) ?hd (cs := #[.int .i64 0, .slice none 0 0, .bool false, .string (⟨#[]⟩ : ByteArray), .slice none 0 0]) (t := 66) ?hr ?_; (case hd => rfl); (case hg => rfl); (case hr => first | (go_simp; done) | (go_simp; rfl)); intro zD hg w7 hbox hb; have n0_ := Aside0.mk (zm (by exact bl HB.out) hb); have n1_ := Aside0.mk (hbox); have n2_ := Aside0.mk ((by rw [hg]; exact (zn (by exact bl HB.out)) : w.heap.size ≤ zD)); have n3_ := Aside0.mk ((by rw [hg]; exact (zn (by exact bl HB.out)) : w.heap.size ≤ zD)); clear HB; have HB := n0_; have zC := n1_; have GW191 := n2_; have zK := n3_; clear n0_ n1_ n2_ n3_; clear hb hbox hg) | ((with_reducible refine zo (f := 72) rfl ?_); refine zy (some 14) rfl rfl Tryd.func72 (by kernel_rfl) rfl #[.slice A0 l0.length c0] rfl (by (try simp only [List.map_toArray, List.map_cons, List.map_nil]); first | done | rfl) ?_; (with_reducible refine (spec_l6Fields.calls k _ _ l0 t192 _ ?side1 ?side2 A5.out).mono ?_); (case side1 => repeat (first | exact (Kd.C_below HR0.out HB.out) | (with_reducible refine Kd.C_alloc ?_ _) | (with_reducible refine Kd.C_drewN ?_ _) | (with_reducible refine Kd.C_drew ?_))); (case side2 => exact HC0.out); rintro e w8 ⟨v193, rfl, zN, hb⟩; refine ⟨_, rfl, ?_⟩; have n0_ := Aside0.mk (Kd.R_lower zN (zn (by exact bl HB.out))); have n1_ := Aside0.mk (zp (g := zD) (o := .cells #[.int .i64 0, .slice none 0 0, .bool false, .string (⟨#[]⟩ : ByteArray), .slice none 0 0] 66 (0, 0)) (BL zC.out) hb); have n2_ := Aside0.mk (zm (by exact bl HB.out) hb); clear zC; clear HB; have zH := n0_; have zC := n1_; have HB := n2_; clear n0_ n1_ n2_; (try clear hb); (try clear hb2); (try clear hk); (try clear hi); (try clear zN); obtain ⟨Ao9, co9, eo9⟩ := Kd.R_slice zH.out; subst eo9; have zO : w8.cell? ⟨zD, 0, none⟩ = some (.int .i64 0) := (zc zC.out 0).trans rfl; have zP : w8.cell? ⟨zD, 1, none⟩ = some (.slice none 0 0) := (zc zC.out 1).trans rfl; have zQ : w8.cell? ⟨zD, 2, none⟩ = some (.bool false) := (zc zC.out 2).trans rfl; have zR : w8.cell? ⟨zD, 3, none⟩ = some (.string (⟨#[]⟩ : ByteArray)) := (zc zC.out 3).trans rfl; have zS : w8.cell? ⟨zD, 4, none⟩ = some (.slice none 0 0) := (zc zC.out 4).trans rfl; have zT := zb zC.out 0; have zU := zb zC.out 1; have zV := zb zC.out 2; have zW := zb zC.out 3; have zX := zb zC.out 4))
   refine bodyPost_ret (results_cell_row rfl _ _ zD 66 #[.int .i64 0, .slice none 0 0, .bool false, .string (⟨#[]⟩ : ByteArray), .slice none 0 0] (0, 0) _ rfl (bfin (by (repeat (first | (with_reducible first | refine zf ?_ _ | refine zj ?_ | refine ze ?_ _) | apply zA)); exact zC.out) (by rfl)) Tryd.underlying66 rfl (by kernel_rfl)) rfl ?_
   exact ⟨_, _, by first | rfl | (simp [*] <;> rfl), by first | exact Kd.R_nil _ _ _ _ _ | exact Kd.N_nil _ _ _ _ _ | exact Kd.V_nil _ _ _ _ _ | exact Kd.Q_nil _ _ _ _ _ | exact Kd.S_nil _ _ _ _ _, by first | exact Kd.R_nil _ _ _ _ _ | exact Kd.N_nil _ _ _ _ _ | exact Kd.V_nil _ _ _ _ _ | exact Kd.Q_nil _ _ _ _ _ | exact Kd.S_nil _ _ _ _ _, by repeat (first | (with_reducible first | exact HB.out | apply zh | apply zd | apply zi | refine zl ?_ zK.out) | exact HB.out)⟩
  ·rw [if_neg c6] at H
   have c6b0 : ((t192.length : Int) == 0) = false := beq_eq_false_iff_ne.mpr c6
   have c6b1 : ((t192.length : Int) != 0) = true := bne_iff_ne.mpr c6
   have c6b2 : ¬ (t192 = []) := fun h_ => c6 (by rw [h_]; rfl)
   by_cases c11 : 0 < (t192.length : Int)
   ·rw [if_pos c11] at H
    have c11b0 : decide (0 < (t192.length : Int)) = true := decide_eq_true c11
    have c11b1 : decide (0 < t192.length) = true := decide_eq_true (by omega)
    clear c11
    by_cases c12 : (rdOf ByteArray.empty t192 0).toList = ([109, 117, 108, 116, 105] : List UInt8)
    ·rw [if_pos c12] at H
     have c12b0 : ((rdOf ByteArray.empty t192 0).toList == ([109, 117, 108, 116, 105] : List UInt8)) = true := beq_iff_eq.mpr c12
     have c12b1 : ((rdOf ByteArray.empty t192 0).toList != ([109, 117, 108, 116, 105] : List UInt8)) = false := bne_eq_false_iff_eq.mpr c12
     clear c12
     by_cases c13 : 1 ≤ (t192.length : Int)
     ·rw [if_pos c13] at H
      have c13b0 := eq_true c13
      have c13b1 : decide (1 ≤ (t192.length : Int)) = true := decide_eq_true c13
      clear c13
      obtain ⟨y196, hy196⟩ : ∃ y_ : List ByteArray, y_ = (t192.drop 1) := ⟨_, rfl⟩
      replace H : ((spec_l6Ops.f k y196).bind fun bt200 => (if bt200.2 = true then (some (1, bt200.1, true, (⟨#[]⟩ : ByteArray), ([] : List Int))) else (some (0, ([] : List (S124)), false, (⟨#[]⟩ : ByteArray), ([] : List Int))))) = some (r1, r2, r3, r4, r5) := by first | (rw [hy196]; with_reducible exact H) | (have H2_ := (Option.bind_some _ _).symm.trans H; rw [hy196]; with_reducible exact H2_) | (have H2_ := (Option.bind_some _ _).symm.trans H; with_reducible exact H2_) | with_reducible exact H | (rw [hy196]; exact H) | exact H
      have Ny196 := Aside0.mk hy196
      clear hy196
      replace H := Option.bind_eq_some_iff.mp H
      obtain ⟨⟨t200, t201⟩, A140, H⟩ := H
      try dsimp only at H
      have A14 := Aside0.mk A140
      clear A140
      by_cases c15 : t201 = true
      ·subst c15
       rw [if_pos rfl] at H
       simp only [Option.some.injEq, Prod.mk.injEq] at H
       obtain ⟨rfl, rfl, rfl, rfl, rfl⟩ := H
       go_enter Tryd.func27, Tryd.ntmps27
       go_wp2_with (first | ((with_reducible refine zu (N := 2) rfl ?_); (try (refine gate_guard (by rfl) ?_; dsimp only)); refine zz ?hg (N := 2) ?hd (cs := #[.int .i64 0, .slice none 0 0, .bool false, .string (⟨#[]⟩ : ByteArray), .slice none 0 0]) (t := 66) ?hr ?_; (case hd => rfl); (case hg => rfl); (case hr => first | (go_simp; done) | (go_simp; rfl)); intro zD hg w16 hbox hb; have n0_ := Aside0.mk (zm (by exact bl HB.out) hb); have n1_ := Aside0.mk (hbox); have n2_ := Aside0.mk ((by rw [hg]; exact (zn (by exact bl HB.out)) : w.heap.size ≤ zD)); have n3_ := Aside0.mk ((by rw [hg]; exact (zn (by exact bl HB.out)) : w.heap.size ≤ zD)); clear HB; have HB := n0_; have zC := n1_; have GW191 := n2_; have zK := n3_; clear n0_ n1_ n2_ n3_; clear hb hbox hg) | ((with_reducible refine zo (f := 72) rfl ?_); refine zy (some 14) rfl rfl Tryd.func72 (by kernel_rfl) rfl #[.slice A0 l0.length c0] rfl (by (try simp only [List.map_toArray, List.map_cons, List.map_nil]); first | done | rfl) ?_; (with_reducible refine (spec_l6Fields.calls k _ _ l0 t192 _ ?side1 ?side2 A5.out).mono ?_); (case side1 => repeat (first | exact (Kd.C_below HR0.out HB.out) | (with_reducible refine Kd.C_alloc ?_ _) | (with_reducible refine Kd.C_drewN ?_ _) | (with_reducible refine Kd.C_drew ?_))); (case side2 => exact HC0.out); rintro e w17 ⟨v193, rfl, zN, hb⟩; refine ⟨_, rfl, ?_⟩; have n0_ := Aside0.mk (Kd.R_lower zN (zn (by exact bl HB.out))); have n1_ := Aside0.mk (zp (g := zD) (o := .cells #[.int .i64 0, .slice none 0 0, .bool false, .string (⟨#[]⟩ : ByteArray), .slice none 0 0] 66 (0, 0)) (BL zC.out) hb); have n2_ := Aside0.mk (zm (by exact bl HB.out) hb); clear zC; clear HB; have zH := n0_; have zC := n1_; have HB := n2_; clear n0_ n1_ n2_; (try clear hb); (try clear hb2); (try clear hk); (try clear hi); (try clear zN); obtain ⟨Ao18, co18, eo18⟩ := Kd.R_slice zH.out; subst eo18; have p195 : 0 ≤ (0 : Int) := (by omega); have q195 : 0 < (t192.length : Int) := of_decide_eq_true (by with_reducible assumption); obtain ⟨ad195, e195, hx195_0⟩ := Kd.at_string (Kd.R_reads' zH.out).2.2 0 p195 q195; cases e195; have qi195 : (0 < t192.length) = True := eq_true (by omega); (try rw [show ((0 : Int)).toNat = 0 from rfl] at hx195_0); (try rw [Addr.add_zero'] at hx195_0); replace p195 := eq_true p195; replace q195 := eq_true q195; have q19 : (1 : Int) ≤ ((t192.length : Int) : Int) := of_decide_eq_true (by with_reducible assumption); obtain ⟨i019, hi019, _, hsz19, _⟩ := info_parts info9; have hroom19 : t192.length ≤ co18 := (Kd.R_reads' zH.out).2.1; have hC19 : Kd.C Kd.string _ (some ad195) t192.length t192 := (Kd.R_reads' zH.out).2.2; have hcut19 := cut_from (P := Tryd.prog) 119 9 .i64 Tryd.underlying119 hi019 1 hsz19 (some ad195) t192.length co18 1 (by omega) q19; have hr19 := Kd.C_drop (m := (1 : Int).toNat) (c := co18) hC19 (by omega) hroom19; obtain ⟨A19, hA19⟩ : ∃ A1, A1 = (if co18 = (1 : Int).toNat then (some ad195) else ((some ad195) : Option Addr).map (·.add ((1 : Int).toNat * 1))) := ⟨_, rfl⟩; obtain ⟨c19, hc19⟩ : ∃ c1, c1 = co18 - (1 : Int).toNat := ⟨_, rfl⟩; have hy19 : y196.length = t192.length - (1 : Int).toNat := (by rw [Ny196.out, List.length_drop] <;> omega); rw [show (t192).drop (1 : Int).toNat = y196 from Ny196.out.symm] at hr19; replace hr19 : Kd.C Kd.string _ A19 y196.length y196 := (by rw [hA19]; exact hr19); rw [← hy19, ← hA19, ← hc19] at hcut19; have HR199 := Aside0.mk hr19; have HC199 := Aside0.mk (show y196.length ≤ c19 from by rw [hy19, hc19]; exact Nat.sub_le_sub_right hroom19 _); clear hr19 hC19 hroom19 hi019 hsz19 hc19; have KY19 := Aside0.mk hy19; have KA19 := Aside0.mk hA19; clear hy19 hA19; have KL19 := Aside0.mk (show 1 ≤ t192.length from by omega); replace q19 := eq_true q19) | ((with_reducible refine zo (f := 73) rfl ?_); refine zy (some 26) rfl rfl Tryd.func73 (by kernel_rfl) rfl #[.slice A19 y196.length c19] rfl (by (try simp only [List.map_toArray, List.map_cons, List.map_nil]); first | done | rfl) ?_; (with_reducible refine (spec_l6Ops.calls k _ _ y196 t200 true _ ?side1 ?side2 A14.out).mono ?_); (case side1 => repeat (first | exact (by repeat (first | (with_reducible exact HR199.out) | (with_reducible refine Kd.C_alloc ?_ _) | (with_reducible refine Kd.C_drewN ?_ _) | (with_reducible refine Kd.C_drew ?_) | exact HR199.out)) | (with_reducible refine Kd.C_alloc ?_ _) | (with_reducible refine Kd.C_drewN ?_ _) | (with_reducible refine Kd.C_drew ?_))); (case side2 => exact HC199.out); rintro e w20 ⟨v202, rfl, zN, hb⟩; refine ⟨_, rfl, ?_⟩; have n0_ := Aside0.mk (Kd.R_below (RL zH.out) hb); have n1_ := Aside0.mk (Kd.R_lower zN (zn (by exact bl HB.out))); have n2_ := Aside0.mk (zp (g := zD) (o := .cells #[.int .i64 0, .slice none 0 0, .bool false, .string (⟨#[]⟩ : ByteArray), .slice none 0 0] 66 (0, 0)) (BL zC.out) hb); have n3_ := Aside0.mk (Kd.C_below (by repeat (first | (with_reducible exact HR199.out) | (with_reducible refine Kd.C_alloc ?_ _) | (with_reducible refine Kd.C_drewN ?_ _) | (with_reducible refine Kd.C_drew ?_) | exact HR199.out)) hb); have n4_ := Aside0.mk (zm (by exact bl HB.out) hb); clear zH; clear zC; clear HR199; clear HB; have zH := n0_; have zAd := n1_; have zC := n2_; have HR199 := n3_; have HB := n4_; clear n0_ n1_ n2_ n3_ n4_; (try clear hb); (try clear hb2); (try clear hk); (try clear hi); (try clear zN); obtain ⟨Ao21, co21, eo21⟩ := Kd.R_slice zAd.out; subst eo21; have zY : w20.cell? ⟨zD, 0, none⟩ = some (.int .i64 0) := (zc zC.out 0).trans rfl; have zZ : w20.cell? ⟨zD, 1, none⟩ = some (.slice none 0 0) := (zc zC.out 1).trans rfl; have zab : w20.cell? ⟨zD, 2, none⟩ = some (.bool false) := (zc zC.out 2).trans rfl; have zbb : w20.cell? ⟨zD, 3, none⟩ = some (.string (⟨#[]⟩ : ByteArray)) := (zc zC.out 3).trans rfl; have zcb : w20.cell? ⟨zD, 4, none⟩ = some (.slice none 0 0) := (zc zC.out 4).trans rfl; have zdb := zb zC.out 0; have zeb := zb zC.out 1; have zfb := zb zC.out 2; have zgb := zb zC.out 3; have zhb := zb zC.out 4))
       refine bodyPost_ret (results_cell_row rfl _ _ zD 66 #[.int .i64 1, .slice Ao21 t200.length co21, .bool true, .string (⟨#[]⟩ : ByteArray), .slice none 0 0] (0, 0) _ rfl (bfin (by (repeat (first | (with_reducible first | refine zf ?_ _ | refine zj ?_ | refine ze ?_ _) | apply zA)); exact zC.out) (by rfl)) Tryd.underlying66 rfl (by kernel_rfl)) rfl ?_
       exact ⟨_, _, by first | rfl | (simp [*] <;> rfl), RL (Kd.R_mono (Kd.R_far (p := ⟨zD, 4, none⟩) (Kd.R_far (p := ⟨zD, 3, none⟩) (Kd.R_far (p := ⟨zD, 2, none⟩) (Kd.R_far (p := ⟨zD, 1, none⟩) (Kd.R_far (p := ⟨zD, 0, none⟩) (Kd.R_types zAd.out zC.out (by decide)) (fun _ hk => hk.2) (.int .i64 1)) (fun _ hk => hk.2) (.slice Ao21 t200.length co21)) (fun _ hk => hk.2) (.bool true)) (fun _ hk => hk.2) (.string (⟨#[]⟩ : ByteArray))) (fun _ hk => hk.2) (.slice none 0 0)) (fun _ hk => trivial)), by first | exact Kd.R_nil _ _ _ _ _ | exact Kd.N_nil _ _ _ _ _ | exact Kd.V_nil _ _ _ _ _ | exact Kd.Q_nil _ _ _ _ _ | exact Kd.S_nil _ _ _ _ _, by repeat (first | (with_reducible first | exact HB.out | apply zh | apply zd | apply zi | refine zl ?_ zK.out) | exact HB.out)⟩
      ·replace c15 := Bool.eq_false_iff.mpr c15
       subst c15
       rw [if_neg (show ¬ (false = true) by decide)] at H
       simp only [Option.some.injEq, Prod.mk.injEq] at H
       obtain ⟨rfl, rfl, rfl, rfl, rfl⟩ := H
       go_enter Tryd.func27, Tryd.ntmps27
       go_wp2_with (first | ((with_reducible refine zu (N := 2) rfl ?_); (try (refine gate_guard (by rfl) ?_; dsimp only)); refine zz ?hg (N := 2) ?hd (cs := #[.int .i64 0, .slice none 0 0, .bool false, .string (⟨#[]⟩ : ByteArray), .slice none 0 0]) (t := 66) ?hr ?_; (case hd => rfl); (case hg => rfl); (case hr => first | (go_simp; done) | (go_simp; rfl)); intro zD hg w23 hbox hb; have n0_ := Aside0.mk (zm (by exact bl HB.out) hb); have n1_ := Aside0.mk (hbox); have n2_ := Aside0.mk ((by rw [hg]; exact (zn (by exact bl HB.out)) : w.heap.size ≤ zD)); have n3_ := Aside0.mk ((by rw [hg]; exact (zn (by exact bl HB.out)) : w.heap.size ≤ zD)); clear HB; have HB := n0_; have zC := n1_; have GW191 := n2_; have zK := n3_; clear n0_ n1_ n2_ n3_; clear hb hbox hg) | ((with_reducible refine zo (f := 72) rfl ?_); refine zy (some 14) rfl rfl Tryd.func72 (by kernel_rfl) rfl #[.slice A0 l0.length c0] rfl (by (try simp only [List.map_toArray, List.map_cons, List.map_nil]); first | done | rfl) ?_; (with_reducible refine (spec_l6Fields.calls k _ _ l0 t192 _ ?side1 ?side2 A5.out).mono ?_); (case side1 => repeat (first | exact (Kd.C_below HR0.out HB.out) | (with_reducible refine Kd.C_alloc ?_ _) | (with_reducible refine Kd.C_drewN ?_ _) | (with_reducible refine Kd.C_drew ?_))); (case side2 => exact HC0.out); rintro e w24 ⟨v193, rfl, zN, hb⟩; refine ⟨_, rfl, ?_⟩; have n0_ := Aside0.mk (Kd.R_lower zN (zn (by exact bl HB.out))); have n1_ := Aside0.mk (zp (g := zD) (o := .cells #[.int .i64 0, .slice none 0 0, .bool false, .string (⟨#[]⟩ : ByteArray), .slice none 0 0] 66 (0, 0)) (BL zC.out) hb); have n2_ := Aside0.mk (zm (by exact bl HB.out) hb); clear zC; clear HB; have zH := n0_; have zC := n1_; have HB := n2_; clear n0_ n1_ n2_; (try clear hb); (try clear hb2); (try clear hk); (try clear hi); (try clear zN); obtain ⟨Ao25, co25, eo25⟩ := Kd.R_slice zH.out; subst eo25; have p195 : 0 ≤ (0 : Int) := (by omega); have q195 : 0 < (t192.length : Int) := of_decide_eq_true (by with_reducible assumption); obtain ⟨ad195, e195, hx195_0⟩ := Kd.at_string (Kd.R_reads' zH.out).2.2 0 p195 q195; cases e195; have qi195 : (0 < t192.length) = True := eq_true (by omega); (try rw [show ((0 : Int)).toNat = 0 from rfl] at hx195_0); (try rw [Addr.add_zero'] at hx195_0); replace p195 := eq_true p195; replace q195 := eq_true q195; have q26 : (1 : Int) ≤ ((t192.length : Int) : Int) := of_decide_eq_true (by with_reducible assumption); obtain ⟨i026, hi026, _, hsz26, _⟩ := info_parts info9; have hroom26 : t192.length ≤ co25 := (Kd.R_reads' zH.out).2.1; have hC26 : Kd.C Kd.string _ (some ad195) t192.length t192 := (Kd.R_reads' zH.out).2.2; have hcut26 := cut_from (P := Tryd.prog) 119 9 .i64 Tryd.underlying119 hi026 1 hsz26 (some ad195) t192.length co25 1 (by omega) q26; have hr26 := Kd.C_drop (m := (1 : Int).toNat) (c := co25) hC26 (by omega) hroom26; obtain ⟨A26, hA26⟩ : ∃ A1, A1 = (if co25 = (1 : Int).toNat then (some ad195) else ((some ad195) : Option Addr).map (·.add ((1 : Int).toNat * 1))) := ⟨_, rfl⟩; obtain ⟨c26, hc26⟩ : ∃ c1, c1 = co25 - (1 : Int).toNat := ⟨_, rfl⟩; have hy26 : y196.length = t192.length - (1 : Int).toNat := (by rw [Ny196.out, List.length_drop] <;> omega); rw [show (t192).drop (1 : Int).toNat = y196 from Ny196.out.symm] at hr26; replace hr26 : Kd.C Kd.string _ A26 y196.length y196 := (by rw [hA26]; exact hr26); rw [← hy26, ← hA26, ← hc26] at hcut26; have HR199 := Aside0.mk hr26; have HC199 := Aside0.mk (show y196.length ≤ c26 from by rw [hy26, hc26]; exact Nat.sub_le_sub_right hroom26 _); clear hr26 hC26 hroom26 hi026 hsz26 hc26; have KY26 := Aside0.mk hy26; have KA26 := Aside0.mk hA26; clear hy26 hA26; have KL26 := Aside0.mk (show 1 ≤ t192.length from by omega); replace q26 := eq_true q26) | ((with_reducible refine zo (f := 73) rfl ?_); refine zy (some 26) rfl rfl Tryd.func73 (by kernel_rfl) rfl #[.slice A26 y196.length c26] rfl (by (try simp only [List.map_toArray, List.map_cons, List.map_nil]); first | done | rfl) ?_; (with_reducible refine (spec_l6Ops.calls k _ _ y196 t200 false _ ?side1 ?side2 A14.out).mono ?_); (case side1 => repeat (first | exact (by repeat (first | (with_reducible exact HR199.out) | (with_reducible refine Kd.C_alloc ?_ _) | (with_reducible refine Kd.C_drewN ?_ _) | (with_reducible refine Kd.C_drew ?_) | exact HR199.out)) | (with_reducible refine Kd.C_alloc ?_ _) | (with_reducible refine Kd.C_drewN ?_ _) | (with_reducible refine Kd.C_drew ?_))); (case side2 => exact HC199.out); rintro e w27 ⟨v202, rfl, zN, hb⟩; refine ⟨_, rfl, ?_⟩; have n0_ := Aside0.mk (Kd.R_below (RL zH.out) hb); have n1_ := Aside0.mk (Kd.R_lower zN (zn (by exact bl HB.out))); have n2_ := Aside0.mk (zp (g := zD) (o := .cells #[.int .i64 0, .slice none 0 0, .bool false, .string (⟨#[]⟩ : ByteArray), .slice none 0 0] 66 (0, 0)) (BL zC.out) hb); have n3_ := Aside0.mk (Kd.C_below (by repeat (first | (with_reducible exact HR199.out) | (with_reducible refine Kd.C_alloc ?_ _) | (with_reducible refine Kd.C_drewN ?_ _) | (with_reducible refine Kd.C_drew ?_) | exact HR199.out)) hb); have n4_ := Aside0.mk (zm (by exact bl HB.out) hb); clear zH; clear zC; clear HR199; clear HB; have zH := n0_; have zAd := n1_; have zC := n2_; have HR199 := n3_; have HB := n4_; clear n0_ n1_ n2_ n3_ n4_; (try clear hb); (try clear hb2); (try clear hk); (try clear hi); (try clear zN); have zib : w27.cell? ⟨zD, 0, none⟩ = some (.int .i64 0) := (zc zC.out 0).trans rfl; have zjb : w27.cell? ⟨zD, 1, none⟩ = some (.slice none 0 0) := (zc zC.out 1).trans rfl; have zkb : w27.cell? ⟨zD, 2, none⟩ = some (.bool false) := (zc zC.out 2).trans rfl; have zlb : w27.cell? ⟨zD, 3, none⟩ = some (.string (⟨#[]⟩ : ByteArray)) := (zc zC.out 3).trans rfl; have zmb : w27.cell? ⟨zD, 4, none⟩ = some (.slice none 0 0) := (zc zC.out 4).trans rfl; have znb := zb zC.out 0; have zob := zb zC.out 1; have zpb := zb zC.out 2; have zqb := zb zC.out 3; have zrb := zb zC.out 4))
       refine bodyPost_ret (results_cell_row rfl _ _ zD 66 #[.int .i64 0, .slice none 0 0, .bool false, .string (⟨#[]⟩ : ByteArray), .slice none 0 0] (0, 0) _ rfl (bfin (by (repeat (first | (with_reducible first | refine zf ?_ _ | refine zj ?_ | refine ze ?_ _) | apply zA)); exact zC.out) (by rfl)) Tryd.underlying66 rfl (by kernel_rfl)) rfl ?_
       exact ⟨_, _, by first | rfl | (simp [*] <;> rfl), by first | exact Kd.R_nil _ _ _ _ _ | exact Kd.N_nil _ _ _ _ _ | exact Kd.V_nil _ _ _ _ _ | exact Kd.Q_nil _ _ _ _ _ | exact Kd.S_nil _ _ _ _ _, by first | exact Kd.R_nil _ _ _ _ _ | exact Kd.N_nil _ _ _ _ _ | exact Kd.V_nil _ _ _ _ _ | exact Kd.Q_nil _ _ _ _ _ | exact Kd.S_nil _ _ _ _ _, by repeat (first | (with_reducible first | exact HB.out | apply zh | apply zd | apply zi | refine zl ?_ zK.out) | exact HB.out)⟩
     ·rw [if_neg c13] at H
      exact absurd H (by simp)
    ·rw [if_neg c12] at H
     have c12b0 : ((rdOf ByteArray.empty t192 0).toList == ([109, 117, 108, 116, 105] : List UInt8)) = false := beq_eq_false_iff_ne.mpr c12
     have c12b1 : ((rdOf ByteArray.empty t192 0).toList != ([109, 117, 108, 116, 105] : List UInt8)) = true := bne_iff_ne.mpr c12
     replace H := Option.bind_eq_some_iff.mp H
     obtain ⟨⟨t204, t205, t206, t207, t208, t209⟩, A290, H⟩ := H
     try dsimp only at H
     have A29 := Aside0.mk A290
     clear A290
     by_cases c30 : t209 = true
     ·subst c30
      rw [if_pos rfl] at H
      obtain ⟨y211, hy211⟩ : ∃ y_ : List (S124), y_ = (([(⟨t204, t205, t206, t207, t208⟩ : S124)] : List (S124))) := ⟨_, rfl⟩
      replace H : (some (1, y211, false, (⟨#[]⟩ : ByteArray), ([] : List Int))) = some (r1, r2, r3, r4, r5) := by first | (rw [hy211]; with_reducible exact H) | (have H2_ := (Option.bind_some _ _).symm.trans H; rw [hy211]; with_reducible exact H2_) | (have H2_ := (Option.bind_some _ _).symm.trans H; with_reducible exact H2_) | with_reducible exact H | (rw [hy211]; exact H) | exact H
      have Ny211 := Aside0.mk hy211
      clear hy211
      simp only [Option.some.injEq, Prod.mk.injEq] at H
      obtain ⟨rfl, rfl, rfl, rfl, rfl⟩ := H
      go_enter Tryd.func27, Tryd.ntmps27
      go_wp2_with (first | ((with_reducible refine zu (N := 2) rfl ?_); (try (refine gate_guard (by rfl) ?_; dsimp only)); refine zz ?hg (N := 2) ?hd (cs := #[.int .i64 0, .slice none 0 0, .bool false, .string (⟨#[]⟩ : ByteArray), .slice none 0 0]) (t := 66) ?hr ?_; (case hd => rfl); (case hg => rfl); (case hr => first | (go_simp; done) | (go_simp; rfl)); intro zD hg w31 hbox hb; have n0_ := Aside0.mk (zm (by exact bl HB.out) hb); have n1_ := Aside0.mk (hbox); have n2_ := Aside0.mk ((by rw [hg]; exact (zn (by exact bl HB.out)) : w.heap.size ≤ zD)); have n3_ := Aside0.mk ((by rw [hg]; exact (zn (by exact bl HB.out)) : w.heap.size ≤ zD)); clear HB; have HB := n0_; have zC := n1_; have GW191 := n2_; have zK := n3_; clear n0_ n1_ n2_ n3_; clear hb hbox hg) | ((with_reducible refine zo (f := 72) rfl ?_); refine zy (some 14) rfl rfl Tryd.func72 (by kernel_rfl) rfl #[.slice A0 l0.length c0] rfl (by (try simp only [List.map_toArray, List.map_cons, List.map_nil]); first | done | rfl) ?_; (with_reducible refine (spec_l6Fields.calls k _ _ l0 t192 _ ?side1 ?side2 A5.out).mono ?_); (case side1 => repeat (first | exact (Kd.C_below HR0.out HB.out) | (with_reducible refine Kd.C_alloc ?_ _) | (with_reducible refine Kd.C_drewN ?_ _) | (with_reducible refine Kd.C_drew ?_))); (case side2 => exact HC0.out); rintro e w32 ⟨v193, rfl, zN, hb⟩; refine ⟨_, rfl, ?_⟩; have n0_ := Aside0.mk (Kd.R_lower zN (zn (by exact bl HB.out))); have n1_ := Aside0.mk (zp (g := zD) (o := .cells #[.int .i64 0, .slice none 0 0, .bool false, .string (⟨#[]⟩ : ByteArray), .slice none 0 0] 66 (0, 0)) (BL zC.out) hb); have n2_ := Aside0.mk (zm (by exact bl HB.out) hb); clear zC; clear HB; have zH := n0_; have zC := n1_; have HB := n2_; clear n0_ n1_ n2_; (try clear hb); (try clear hb2); (try clear hk); (try clear hi); (try clear zN); obtain ⟨Ao33, co33, eo33⟩ := Kd.R_slice zH.out; subst eo33; have p195 : 0 ≤ (0 : Int) := (by omega); have q195 : 0 < (t192.length : Int) := of_decide_eq_true (by with_reducible assumption); obtain ⟨ad195, e195, hx195_0⟩ := Kd.at_string (Kd.R_reads' zH.out).2.2 0 p195 q195; cases e195; have qi195 : (0 < t192.length) = True := eq_true (by omega); (try rw [show ((0 : Int)).toNat = 0 from rfl] at hx195_0); (try rw [Addr.add_zero'] at hx195_0); replace p195 := eq_true p195; replace q195 := eq_true q195) | ((with_reducible refine zo (f := 74) rfl ?_); refine zy (some 37) rfl rfl Tryd.func74 (by kernel_rfl) rfl #[.slice (some ad195) t192.length co33] rfl (by (try simp only [List.map_toArray, List.map_cons, List.map_nil]); first | done | rfl) ?_; (with_reducible refine (spec_l6Op.calls k _ _ t192 t204 t205 t206 t207 t208 true _ ?side1 ?side2 A29.out).mono ?_); (case side1 => repeat (first | exact (Kd.R_reads' zH.out).2.2 | (with_reducible refine Kd.C_alloc ?_ _) | (with_reducible refine Kd.C_drewN ?_ _) | (with_reducible refine Kd.C_drew ?_))); (case side2 => exact (Kd.R_reads' zH.out).2.1); rintro e w34 ⟨rfl, hb⟩; refine ⟨_, rfl, ?_⟩; have n0_ := Aside0.mk (Kd.R_below (RL zH.out) hb); have n1_ := Aside0.mk (zp (g := zD) (o := .cells #[.int .i64 0, .slice none 0 0, .bool false, .string (⟨#[]⟩ : ByteArray), .slice none 0 0] 66 (0, 0)) (BL zC.out) hb); have n2_ := Aside0.mk (zm (by exact bl HB.out) hb); clear zH; clear zC; clear HB; have zH := n0_; have zC := n1_; have HB := n2_; clear n0_ n1_ n2_; (try clear hb); (try clear hb2); (try clear hk); (try clear hi)) | ((with_reducible refine zu (N := 6) rfl ?_); (try (refine gate_guard (by rfl) ?_; dsimp only)); refine zz ?hg (N := 6) ?hd (cs := #[.int .i64 0, .string (⟨#[]⟩ : ByteArray), .string (⟨#[]⟩ : ByteArray), .int .i64 0, .bool false]) (t := 124) ?hr ?_; (case hd => rfl); (case hg => rfl); (case hr => first | (go_simp; done) | (go_simp; rfl)); intro zE hg w35 hbox hb; have n0_ := Aside0.mk (Kd.R_below (RL zH.out) hb); have n1_ := Aside0.mk (zp (g := zD) (o := .cells #[.int .i64 0, .slice none 0 0, .bool false, .string (⟨#[]⟩ : ByteArray), .slice none 0 0] 66 (0, 0)) (BL zC.out) hb); have n2_ := Aside0.mk (zm (by exact bl HB.out) hb); have n3_ := Aside0.mk (hbox); have n4_ := Aside0.mk ((by rw [hg]; exact (zn (by exact bl HB.out)) : w.heap.size ≤ zE)); have n5_ := Aside0.mk ((by rw [hg]; exact (zn (by exact bl HB.out)) : w.heap.size ≤ zE)); have n6_ := Aside0.mk ((by rw [hg]; exact Nat.ne_of_lt (zB (g := zD) (o := .cells #[.int .i64 0, .slice none 0 0, .bool false, .string (⟨#[]⟩ : ByteArray), .slice none 0 0] 66 (0, 0)) (BL zC.out)) : zD ≠ zE)); have n7_ := Aside0.mk ((by rw [hg]; exact Nat.ne_of_gt (zB (g := zD) (o := .cells #[.int .i64 0, .slice none 0 0, .bool false, .string (⟨#[]⟩ : ByteArray), .slice none 0 0] 66 (0, 0)) (BL zC.out)) : zE ≠ zD)); clear zH; clear zC; clear HB; have zH := n0_; have zC := n1_; have HB := n2_; have zG := n3_; have GW210 := n4_; have zM := n5_; have zF := n6_; have zL := n7_; clear n0_ n1_ n2_ n3_ n4_ n5_ n6_ n7_; clear hb hbox hg; have zQf := zL.out; have zRf := zF.out; have zsb : w35.cell? ⟨zE, 0, none⟩ = some (.int .i64 0) := (zc zG.out 0).trans rfl; have ztb : w35.cell? ⟨zE, 1, none⟩ = some (.string (⟨#[]⟩ : ByteArray)) := (zc zG.out 1).trans rfl; have zub : w35.cell? ⟨zE, 2, none⟩ = some (.string (⟨#[]⟩ : ByteArray)) := (zc zG.out 2).trans rfl; have zvb : w35.cell? ⟨zE, 3, none⟩ = some (.int .i64 0) := (zc zG.out 3).trans rfl; have zwb : w35.cell? ⟨zE, 4, none⟩ = some (.bool false) := (zc zG.out 4).trans rfl; have zxb := zb zG.out 0; have zyb := zb zG.out 1; have zzb := zb zG.out 2; have zAb := zb zG.out 3; have zBb := zb zG.out 4) | ((with_reducible refine zu (N := 42) rfl ?_); (try (refine gate_guard (by rfl) ?_; dsimp only)); refine Kd.R_lit k124 _ 124 ?hg (N := 42) ?hd (xs := ([(⟨t204, t205, t206, t207, t208⟩ : S124)] : List (S124))) (inner := [.int .i64 t204, .string t205, .string t206, .int .i64 t207, .bool t208]) (ok := fun _ => True) (okp := fun _ => True) ?hr ?hp (fun _ hk => hk) trivial (Below.refl _ _) (Nat.le_refl _) (by simp) ?_; (case hd => rfl); (case hg => rfl); (case hr => first | (go_simp; done) | (go_simp; rfl)); (case hp => exact (Reps.c5 (show Kd.M k124 _ _ _ (⟨t204, t205, t206, t207, t208⟩ : S124) [.int .i64 t204, .string t205, .string t206, .int .i64 t207, .bool t208] from (k124_mkM _ _ _ (⟨t204, t205, t206, t207, t208⟩ : S124) )) (Reps.none _ _))); intro v212 w38 zpd hb hg_ hnew_; clear hg_ hnew_; (first | rw [← Ny211.out] at zpd | (simp only [Int.reduceToNat] at zpd; rw [← Ny211.out] at zpd)); have n0_ := Aside0.mk (Kd.R_below (RL ((Kd.R_mono (Kd.R_far (p := ⟨zE, 4, none⟩) (Kd.R_far (p := ⟨zE, 3, none⟩) (Kd.R_far (p := ⟨zE, 2, none⟩) (Kd.R_far (p := ⟨zE, 1, none⟩) (Kd.R_far (p := ⟨zE, 0, none⟩) (Kd.R_types zH.out zG.out (by decide)) (fun _ hk => hk.2) (.int .i64 t204)) (fun _ hk => hk.2) (.string t205)) (fun _ hk => hk.2) (.string t206)) (fun _ hk => hk.2) (.int .i64 t207)) (fun _ hk => hk.2) (.bool t208)) (fun _ h_ => h_.1)))) hb); have n1_ := Aside0.mk (Kd.R_lower (Kd.R_newB zpd (g := zE) (o := .cells #[.int .i64 t204, .string t205, .string t206, .int .i64 t207, .bool t208] 124 (0, 0)) (bfin (by (repeat (first | (with_reducible first | refine zf ?_ _ | refine zj ?_ | refine ze ?_ _) | apply zA)); exact zG.out) (by rfl))) (zn (by repeat (first | (with_reducible first | exact HB.out | apply zh | apply zd | apply zi | refine zl ?_ zK.out | refine zl ?_ zM.out) | exact HB.out)))); have n2_ := Aside0.mk (zp (g := zD) (o := .cells #[.int .i64 0, .slice none 0 0, .bool false, .string (⟨#[]⟩ : ByteArray), .slice none 0 0] 66 (0, 0)) (by (with_reducible repeat (first | refine zf ?_ _ | refine zj ?_ | refine ze ?_ _)); refine zq ?_ zF.out _; (with_reducible repeat (first | refine zf ?_ _ | refine zj ?_ | refine ze ?_ _)); refine zq ?_ zF.out _; (with_reducible repeat (first | refine zf ?_ _ | refine zj ?_ | refine ze ?_ _)); refine zq ?_ zF.out _; (with_reducible repeat (first | refine zf ?_ _ | refine zj ?_ | refine ze ?_ _)); refine zq ?_ zF.out _; (with_reducible repeat (first | refine zf ?_ _ | refine zj ?_ | refine ze ?_ _)); refine zq ?_ zF.out _; (with_reducible repeat (first | refine zf ?_ _ | refine zj ?_ | refine ze ?_ _)); exact zC.out) hb); have n3_ := Aside0.mk (zp (g := zE) (o := .cells #[.int .i64 t204, .string t205, .string t206, .int .i64 t207, .bool t208] 124 (0, 0)) (bfin (by (repeat (first | (with_reducible first | refine zf ?_ _ | refine zj ?_ | refine ze ?_ _) | apply zA)); exact zG.out) (by rfl)) hb); have n4_ := Aside0.mk (zm (by repeat (first | (with_reducible first | exact HB.out | apply zh | apply zd | apply zi | refine zl ?_ zK.out | refine zl ?_ zM.out) | exact HB.out)) hb); clear zH; clear zC; clear zG; clear HB; have zH := n0_; have zBd := n1_; have zC := n2_; have zG := n3_; have HB := n4_; clear n0_ n1_ n2_ n3_ n4_; clear hb zpd; obtain ⟨Ao40, co40, eo40⟩ := Kd.R_slice zBd.out; subst eo40; have zCb : w38.cell? ⟨zD, 0, none⟩ = some (.int .i64 0) := (zc zC.out 0).trans rfl; have zDb : w38.cell? ⟨zD, 1, none⟩ = some (.slice none 0 0) := (zc zC.out 1).trans rfl; have zEb : w38.cell? ⟨zD, 2, none⟩ = some (.bool false) := (zc zC.out 2).trans rfl; have zFb : w38.cell? ⟨zD, 3, none⟩ = some (.string (⟨#[]⟩ : ByteArray)) := (zc zC.out 3).trans rfl; have zGb : w38.cell? ⟨zD, 4, none⟩ = some (.slice none 0 0) := (zc zC.out 4).trans rfl; have zHb := zb zC.out 0; have zIb := zb zC.out 1; have zJb := zb zC.out 2; have zKb := zb zC.out 3; have zLb := zb zC.out 4))
      refine bodyPost_ret (results_cell_row rfl _ _ zD 66 #[.int .i64 1, .slice Ao40 y211.length co40, .bool false, .string (⟨#[]⟩ : ByteArray), .slice none 0 0] (0, 0) _ rfl (bfin (by (repeat (first | (with_reducible first | refine zf ?_ _ | refine zj ?_ | refine ze ?_ _) | apply zA)); exact zC.out) (by rfl)) Tryd.underlying66 rfl (by kernel_rfl)) rfl ?_
      exact ⟨_, _, by first | rfl | (simp [*] <;> rfl), RL (Kd.R_mono (Kd.R_far (p := ⟨zD, 4, none⟩) (Kd.R_far (p := ⟨zD, 3, none⟩) (Kd.R_far (p := ⟨zD, 2, none⟩) (Kd.R_far (p := ⟨zD, 1, none⟩) (Kd.R_far (p := ⟨zD, 0, none⟩) (Kd.R_types zBd.out zC.out (by decide)) (fun _ hk => hk.2) (.int .i64 1)) (fun _ hk => hk.2) (.slice Ao40 y211.length co40)) (fun _ hk => hk.2) (.bool false)) (fun _ hk => hk.2) (.string (⟨#[]⟩ : ByteArray))) (fun _ hk => hk.2) (.slice none 0 0)) (fun _ hk => trivial)), by first | exact Kd.R_nil _ _ _ _ _ | exact Kd.N_nil _ _ _ _ _ | exact Kd.V_nil _ _ _ _ _ | exact Kd.Q_nil _ _ _ _ _ | exact Kd.S_nil _ _ _ _ _, by repeat (first | (with_reducible first | exact HB.out | apply zh | apply zd | apply zi | refine zl ?_ zK.out | refine zl ?_ zM.out) | exact HB.out)⟩
     ·replace c30 := Bool.eq_false_iff.mpr c30
      subst c30
      rw [if_neg (show ¬ (false = true) by decide)] at H
      have HC42 := Aside0.mk H
      clear H
      go_enter Tryd.func27, Tryd.ntmps27
      go_upto_if 47 with (first | ((with_reducible refine zu (N := 2) rfl ?_); (try (refine gate_guard (by rfl) ?_; dsimp only)); refine zz ?hg (N := 2) ?hd (cs := #[.int .i64 0, .slice none 0 0, .bool false, .string (⟨#[]⟩ : ByteArray), .slice none 0 0]) (t := 66) ?hr ?_; (case hd => rfl); (case hg => rfl); (case hr => first | (go_simp; done) | (go_simp; rfl)); intro zD hg w43 hbox hb; have n0_ := Aside0.mk (zm (by exact bl HB.out) hb); have n1_ := Aside0.mk (hbox); have n2_ := Aside0.mk ((by rw [hg]; exact (zn (by exact bl HB.out)) : w.heap.size ≤ zD)); have n3_ := Aside0.mk ((by rw [hg]; exact (zn (by exact bl HB.out)) : w.heap.size ≤ zD)); clear HB; have HB := n0_; have zC := n1_; have GW191 := n2_; have zK := n3_; clear n0_ n1_ n2_ n3_; clear hb hbox hg) | ((with_reducible refine zo (f := 72) rfl ?_); refine zy (some 14) rfl rfl Tryd.func72 (by kernel_rfl) rfl #[.slice A0 l0.length c0] rfl (by (try simp only [List.map_toArray, List.map_cons, List.map_nil]); first | done | rfl) ?_; (with_reducible refine (spec_l6Fields.calls k _ _ l0 t192 _ ?side1 ?side2 A5.out).mono ?_); (case side1 => repeat (first | exact (Kd.C_below HR0.out HB.out) | (with_reducible refine Kd.C_alloc ?_ _) | (with_reducible refine Kd.C_drewN ?_ _) | (with_reducible refine Kd.C_drew ?_))); (case side2 => exact HC0.out); rintro e w44 ⟨v193, rfl, zN, hb⟩; refine ⟨_, rfl, ?_⟩; have n0_ := Aside0.mk (Kd.R_lower zN (zn (by exact bl HB.out))); have n1_ := Aside0.mk (zp (g := zD) (o := .cells #[.int .i64 0, .slice none 0 0, .bool false, .string (⟨#[]⟩ : ByteArray), .slice none 0 0] 66 (0, 0)) (BL zC.out) hb); have n2_ := Aside0.mk (zm (by exact bl HB.out) hb); clear zC; clear HB; have zH := n0_; have zC := n1_; have HB := n2_; clear n0_ n1_ n2_; (try clear hb); (try clear hb2); (try clear hk); (try clear hi); (try clear zN); obtain ⟨Ao45, co45, eo45⟩ := Kd.R_slice zH.out; subst eo45; have p195 : 0 ≤ (0 : Int) := (by omega); have q195 : 0 < (t192.length : Int) := of_decide_eq_true (by with_reducible assumption); obtain ⟨ad195, e195, hx195_0⟩ := Kd.at_string (Kd.R_reads' zH.out).2.2 0 p195 q195; cases e195; have qi195 : (0 < t192.length) = True := eq_true (by omega); (try rw [show ((0 : Int)).toNat = 0 from rfl] at hx195_0); (try rw [Addr.add_zero'] at hx195_0); replace p195 := eq_true p195; replace q195 := eq_true q195) | ((with_reducible refine zo (f := 74) rfl ?_); refine zy (some 37) rfl rfl Tryd.func74 (by kernel_rfl) rfl #[.slice (some ad195) t192.length co45] rfl (by (try simp only [List.map_toArray, List.map_cons, List.map_nil]); first | done | rfl) ?_; (with_reducible refine (spec_l6Op.calls k _ _ t192 t204 t205 t206 t207 t208 false _ ?side1 ?side2 A29.out).mono ?_); (case side1 => repeat (first | exact (Kd.R_reads' zH.out).2.2 | (with_reducible refine Kd.C_alloc ?_ _) | (with_reducible refine Kd.C_drewN ?_ _) | (with_reducible refine Kd.C_drew ?_))); (case side2 => exact (Kd.R_reads' zH.out).2.1); rintro e w46 ⟨rfl, hb⟩; refine ⟨_, rfl, ?_⟩; have n0_ := Aside0.mk (Kd.R_below (RL zH.out) hb); have n1_ := Aside0.mk (zp (g := zD) (o := .cells #[.int .i64 0, .slice none 0 0, .bool false, .string (⟨#[]⟩ : ByteArray), .slice none 0 0] 66 (0, 0)) (BL zC.out) hb); have n2_ := Aside0.mk (zm (by exact bl HB.out) hb); clear zH; clear zC; clear HB; have zH := n0_; have zC := n1_; have HB := n2_; clear n0_ n1_ n2_; (try clear hb); (try clear hb2); (try clear hk); (try clear hi)) | ((with_reducible refine zu (N := 6) rfl ?_); (try (refine gate_guard (by rfl) ?_; dsimp only)); refine zz ?hg (N := 6) ?hd (cs := #[.int .i64 0, .string (⟨#[]⟩ : ByteArray), .string (⟨#[]⟩ : ByteArray), .int .i64 0, .bool false]) (t := 124) ?hr ?_; (case hd => rfl); (case hg => rfl); (case hr => first | (go_simp; done) | (go_simp; rfl)); intro zE hg w47 hbox hb; have n0_ := Aside0.mk (Kd.R_below (RL zH.out) hb); have n1_ := Aside0.mk (zp (g := zD) (o := .cells #[.int .i64 0, .slice none 0 0, .bool false, .string (⟨#[]⟩ : ByteArray), .slice none 0 0] 66 (0, 0)) (BL zC.out) hb); have n2_ := Aside0.mk (zm (by exact bl HB.out) hb); have n3_ := Aside0.mk (hbox); have n4_ := Aside0.mk ((by rw [hg]; exact (zn (by exact bl HB.out)) : w.heap.size ≤ zE)); have n5_ := Aside0.mk ((by rw [hg]; exact (zn (by exact bl HB.out)) : w.heap.size ≤ zE)); have n6_ := Aside0.mk ((by rw [hg]; exact Nat.ne_of_lt (zB (g := zD) (o := .cells #[.int .i64 0, .slice none 0 0, .bool false, .string (⟨#[]⟩ : ByteArray), .slice none 0 0] 66 (0, 0)) (BL zC.out)) : zD ≠ zE)); have n7_ := Aside0.mk ((by rw [hg]; exact Nat.ne_of_gt (zB (g := zD) (o := .cells #[.int .i64 0, .slice none 0 0, .bool false, .string (⟨#[]⟩ : ByteArray), .slice none 0 0] 66 (0, 0)) (BL zC.out)) : zE ≠ zD)); clear zH; clear zC; clear HB; have zH := n0_; have zC := n1_; have HB := n2_; have zG := n3_; have GW210 := n4_; have zM := n5_; have zF := n6_; have zL := n7_; clear n0_ n1_ n2_ n3_ n4_ n5_ n6_ n7_; clear hb hbox hg; have zSf := zL.out; have zTf := zF.out; have zMb : w47.cell? ⟨zE, 0, none⟩ = some (.int .i64 0) := (zc zG.out 0).trans rfl; have zNb : w47.cell? ⟨zE, 1, none⟩ = some (.string (⟨#[]⟩ : ByteArray)) := (zc zG.out 1).trans rfl; have zOb : w47.cell? ⟨zE, 2, none⟩ = some (.string (⟨#[]⟩ : ByteArray)) := (zc zG.out 2).trans rfl; have zPb : w47.cell? ⟨zE, 3, none⟩ = some (.int .i64 0) := (zc zG.out 3).trans rfl; have zQb : w47.cell? ⟨zE, 4, none⟩ = some (.bool false) := (zc zG.out 4).trans rfl; have zRb := zb zG.out 0; have zSb := zb zG.out 1; have zTb := zb zG.out 2; have zUb := zb zG.out 3; have zVb := zb zG.out 4))
      (try simp only [Act.put, List.setIfInBounds_toArray, List.set_cons_zero, List.set_cons_succ])
      go_cut [] (fun wc => ∃ (kq : Nat) (x192000_41 : Int) (x192002_41 : Bool) (x192003_41 : ByteArray), Aside0 (spec_ParseLine.j0 kq t192 = some (r1, r2, r3, r4, r5)) ∧ Aside0 (kq ≤ k) ∧ Aside0 (Kd.R Kd.string 9 wc w.heap.size (fun _ => True) (.slice (some ad195) t192.length co45) t192) ∧ Aside0 (wc.heap[zD]? = some (.cells #[.int .i64 x192000_41, (.slice none 0 0), .bool x192002_41, .string x192003_41, (.slice none 0 0)] 66 (0, 0))) ∧ Aside0 (wc.heap[zE]? = some (.cells #[.int .i64 t204, .string t205, .string t206, .int .i64 t207, .bool t208] 124 (0, 0))) ∧ Aside0 (Below w.heap.size w wc))
      case first =>
       have H := HC42.out
       clear HC42
       by_cases c50 : (t192.length : Int) = 1
       ·rw [if_pos c50] at H
        have c50b0 : ((t192.length : Int) == 1) = true := beq_iff_eq.mpr c50
        have c50b1 : ((t192.length : Int) != 1) = false := bne_eq_false_iff_eq.mpr c50
        clear c50
        (first | rw [c50b0] | (simp only [zr, zt]; rw [c50b0]) | skip)
        by_cases c51 : (rdOf ByteArray.empty t192 0).toList = ([102, 108, 117, 115, 104] : List UInt8)
        ·rw [if_pos c51] at H
         have c51b0 : ((rdOf ByteArray.empty t192 0).toList == ([102, 108, 117, 115, 104] : List UInt8)) = true := beq_iff_eq.mpr c51
         have c51b1 : ((rdOf ByteArray.empty t192 0).toList != ([102, 108, 117, 115, 104] : List UInt8)) = false := bne_eq_false_iff_eq.mpr c51
         clear c51
         simp only [Option.some.injEq, Prod.mk.injEq] at H
         obtain ⟨rfl, rfl, rfl, rfl, rfl⟩ := H
         have p214 : 0 ≤ (0 : Int) := (by omega)
         have q214 : 0 < (t192.length : Int) := of_decide_eq_true (by with_reducible assumption)
         obtain ⟨ad214, e214, hx214_0⟩ := Kd.at_string (Kd.R_reads' zH.out).2.2 0 p214 q214
         obtain rfl : ad195 = ad214 := (by injection e214)
         have qi214 : (0 < t192.length) = True := eq_true (by omega)
         (try rw [show ((0 : Int)).toNat = 0 from rfl] at hx214_0)
         (try rw [Addr.add_zero'] at hx214_0)
         have hn214_0 : ad195.block ≠ zE := Kd.own_blk (Kd.R_ne zH.out zG.out (by decide))
         have hn214_1 : ad195.block ≠ zE := Kd.own_blk (Kd.R_ne zH.out zG.out (by decide))
         have hn214_2 : ad195.block ≠ zE := Kd.own_blk (Kd.R_ne zH.out zG.out (by decide))
         have hn214_3 : ad195.block ≠ zE := Kd.own_blk (Kd.R_ne zH.out zG.out (by decide))
         have hn214_4 : ad195.block ≠ zE := Kd.own_blk (Kd.R_ne zH.out zG.out (by decide))
         replace hx214_0 := (zw (p := ⟨zE, 0, none⟩) (by first | (rw [zg]; exact hn214_0) | (show (Addr.add _ _).block ≠ _; rw [zg]; exact hn214_0) | exact hn214_0) (.int .i64 t204)).trans hx214_0
         replace hx214_0 := (zw (p := ⟨zE, 1, none⟩) (by first | (rw [zg]; exact hn214_1) | (show (Addr.add _ _).block ≠ _; rw [zg]; exact hn214_1) | exact hn214_1) (.string t205)).trans hx214_0
         replace hx214_0 := (zw (p := ⟨zE, 2, none⟩) (by first | (rw [zg]; exact hn214_2) | (show (Addr.add _ _).block ≠ _; rw [zg]; exact hn214_2) | exact hn214_2) (.string t206)).trans hx214_0
         replace hx214_0 := (zw (p := ⟨zE, 3, none⟩) (by first | (rw [zg]; exact hn214_3) | (show (Addr.add _ _).block ≠ _; rw [zg]; exact hn214_3) | exact hn214_3) (.int .i64 t207)).trans hx214_0
         replace hx214_0 := (zw (p := ⟨zE, 4, none⟩) (by first | (rw [zg]; exact hn214_4) | (show (Addr.add _ _).block ≠ _; rw [zg]; exact hn214_4) | exact hn214_4) (.bool t208)).trans hx214_0
         clear hn214_0
         clear hn214_1
         clear hn214_2
         clear hn214_3
         clear hn214_4
         replace p214 := eq_true p214
         replace q214 := eq_true q214
         have zUf := zF.out
         have zVf := zL.out
         have zWb : w47.cell? ⟨zD, 0, none⟩ = some (.int .i64 0) := (zc zC.out 0).trans rfl
         have zXb : w47.cell? ⟨zD, 1, none⟩ = some (.slice none 0 0) := (zc zC.out 1).trans rfl
         have zYb : w47.cell? ⟨zD, 2, none⟩ = some (.bool false) := (zc zC.out 2).trans rfl
         have zZb : w47.cell? ⟨zD, 3, none⟩ = some (.string (⟨#[]⟩ : ByteArray)) := (zc zC.out 3).trans rfl
         have zac : w47.cell? ⟨zD, 4, none⟩ = some (.slice none 0 0) := (zc zC.out 4).trans rfl
         have zbc := zb zC.out 0
         have zcc := zb zC.out 1
         have zdc := zb zC.out 2
         have zec := zb zC.out 3
         have zfc := zb zC.out 4
         go_wp2
         refine bodyPost_ret (results_cell_row rfl _ _ zD 66 #[.int .i64 2, .slice none 0 0, .bool false, .string (⟨#[]⟩ : ByteArray), .slice none 0 0] (0, 0) _ rfl (by (with_reducible repeat (first | refine zf ?_ _ | refine zj ?_ | refine ze ?_ _)); refine zx (cs := #[.int .i64 2, .slice none 0 0, .bool false, .string (⟨#[]⟩ : ByteArray), .slice none 0 0]) ?_ 4 _ rfl; (with_reducible repeat (first | refine zf ?_ _ | refine zj ?_ | refine ze ?_ _)); refine zx (cs := #[.int .i64 2, .slice none 0 0, .bool false, .string (⟨#[]⟩ : ByteArray), .slice none 0 0]) ?_ 3 _ rfl; (with_reducible repeat (first | refine zf ?_ _ | refine zj ?_ | refine ze ?_ _)); refine zx (cs := #[.int .i64 2, .slice none 0 0, .bool false, .string (⟨#[]⟩ : ByteArray), .slice none 0 0]) ?_ 2 _ rfl; (with_reducible repeat (first | refine zf ?_ _ | refine zj ?_ | refine ze ?_ _)); refine zx (cs := #[.int .i64 2, .slice none 0 0, .bool false, .string (⟨#[]⟩ : ByteArray), .slice none 0 0]) ?_ 1 _ rfl; (with_reducible repeat (first | refine zf ?_ _ | refine zj ?_ | refine ze ?_ _)); refine zx (cs := #[.int .i64 0, .slice none 0 0, .bool false, .string (⟨#[]⟩ : ByteArray), .slice none 0 0]) ?_ 0 _ rfl; (with_reducible repeat (first | refine zf ?_ _ | refine zj ?_ | refine ze ?_ _)); refine zq ?_ zF.out _; (with_reducible repeat (first | refine zf ?_ _ | refine zj ?_ | refine ze ?_ _)); refine zq ?_ zF.out _; (with_reducible repeat (first | refine zf ?_ _ | refine zj ?_ | refine ze ?_ _)); refine zq ?_ zF.out _; (with_reducible repeat (first | refine zf ?_ _ | refine zj ?_ | refine ze ?_ _)); refine zq ?_ zF.out _; (with_reducible repeat (first | refine zf ?_ _ | refine zj ?_ | refine ze ?_ _)); refine zq ?_ zF.out _; (with_reducible repeat (first | refine zf ?_ _ | refine zj ?_ | refine ze ?_ _)); exact zC.out) Tryd.underlying66 rfl (by kernel_rfl)) rfl ?_
         exact ⟨_, _, by first | rfl | (simp [*] <;> rfl), by first | exact Kd.R_nil _ _ _ _ _ | exact Kd.N_nil _ _ _ _ _ | exact Kd.V_nil _ _ _ _ _ | exact Kd.Q_nil _ _ _ _ _ | exact Kd.S_nil _ _ _ _ _, by first | exact Kd.R_nil _ _ _ _ _ | exact Kd.N_nil _ _ _ _ _ | exact Kd.V_nil _ _ _ _ _ | exact Kd.Q_nil _ _ _ _ _ | exact Kd.S_nil _ _ _ _ _, by repeat (first | (with_reducible first | exact HB.out | apply zh | apply zd | apply zi | refine zl ?_ zK.out | refine zl ?_ zM.out) | exact HB.out)⟩
        ·rw [if_neg c51] at H
         have c51b0 : ((rdOf ByteArray.empty t192 0).toList == ([102, 108, 117, 115, 104] : List UInt8)) = false := beq_eq_false_iff_ne.mpr c51
         have c51b1 : ((rdOf ByteArray.empty t192 0).toList != ([102, 108, 117, 115, 104] : List UInt8)) = true := bne_iff_ne.mpr c51
         by_cases c54 : (rdOf ByteArray.empty t192 0).toList = ([100, 117, 109, 112] : List UInt8)
         ·rw [if_pos c54] at H
          have c54b0 : ((rdOf ByteArray.empty t192 0).toList == ([100, 117, 109, 112] : List UInt8)) = true := beq_iff_eq.mpr c54
          have c54b1 : ((rdOf ByteArray.empty t192 0).toList != ([100, 117, 109, 112] : List UInt8)) = false := bne_eq_false_iff_eq.mpr c54
          clear c54
          simp only [Option.some.injEq, Prod.mk.injEq] at H
          obtain ⟨rfl, rfl, rfl, rfl, rfl⟩ := H
          have p214 : 0 ≤ (0 : Int) := (by omega)
          have q214 : 0 < (t192.length : Int) := of_decide_eq_true (by with_reducible assumption)
          obtain ⟨ad214, e214, hx214_0⟩ := Kd.at_string (Kd.R_reads' zH.out).2.2 0 p214 q214
          obtain rfl : ad195 = ad214 := (by injection e214)
          have qi214 : (0 < t192.length) = True := eq_true (by omega)
          (try rw [show ((0 : Int)).toNat = 0 from rfl] at hx214_0)
          (try rw [Addr.add_zero'] at hx214_0)
          have hn214_0 : ad195.block ≠ zE := Kd.own_blk (Kd.R_ne zH.out zG.out (by decide))
          have hn214_1 : ad195.block ≠ zE := Kd.own_blk (Kd.R_ne zH.out zG.out (by decide))
          have hn214_2 : ad195.block ≠ zE := Kd.own_blk (Kd.R_ne zH.out zG.out (by decide))
          have hn214_3 : ad195.block ≠ zE := Kd.own_blk (Kd.R_ne zH.out zG.out (by decide))
          have hn214_4 : ad195.block ≠ zE := Kd.own_blk (Kd.R_ne zH.out zG.out (by decide))
          replace hx214_0 := (zw (p := ⟨zE, 0, none⟩) (by first | (rw [zg]; exact hn214_0) | (show (Addr.add _ _).block ≠ _; rw [zg]; exact hn214_0) | exact hn214_0) (.int .i64 t204)).trans hx214_0
          replace hx214_0 := (zw (p := ⟨zE, 1, none⟩) (by first | (rw [zg]; exact hn214_1) | (show (Addr.add _ _).block ≠ _; rw [zg]; exact hn214_1) | exact hn214_1) (.string t205)).trans hx214_0
          replace hx214_0 := (zw (p := ⟨zE, 2, none⟩) (by first | (rw [zg]; exact hn214_2) | (show (Addr.add _ _).block ≠ _; rw [zg]; exact hn214_2) | exact hn214_2) (.string t206)).trans hx214_0
          replace hx214_0 := (zw (p := ⟨zE, 3, none⟩) (by first | (rw [zg]; exact hn214_3) | (show (Addr.add _ _).block ≠ _; rw [zg]; exact hn214_3) | exact hn214_3) (.int .i64 t207)).trans hx214_0
          replace hx214_0 := (zw (p := ⟨zE, 4, none⟩) (by first | (rw [zg]; exact hn214_4) | (show (Addr.add _ _).block ≠ _; rw [zg]; exact hn214_4) | exact hn214_4) (.bool t208)).trans hx214_0
          clear hn214_0
          clear hn214_1
          clear hn214_2
          clear hn214_3
          clear hn214_4
          replace p214 := eq_true p214
          replace q214 := eq_true q214
          have zWf := zF.out
          have zXf := zL.out
          have zgc : w47.cell? ⟨zD, 0, none⟩ = some (.int .i64 0) := (zc zC.out 0).trans rfl
          have zhc : w47.cell? ⟨zD, 1, none⟩ = some (.slice none 0 0) := (zc zC.out 1).trans rfl
          have zic : w47.cell? ⟨zD, 2, none⟩ = some (.bool false) := (zc zC.out 2).trans rfl
          have zjc : w47.cell? ⟨zD, 3, none⟩ = some (.string (⟨#[]⟩ : ByteArray)) := (zc zC.out 3).trans rfl
          have zkc : w47.cell? ⟨zD, 4, none⟩ = some (.slice none 0 0) := (zc zC.out 4).trans rfl
          have zlc := zb zC.out 0
          have zmc := zb zC.out 1
          have znc := zb zC.out 2
          have zoc := zb zC.out 3
          have zpc := zb zC.out 4
          go_wp2
          refine bodyPost_ret (results_cell_row rfl _ _ zD 66 #[.int .i64 5, .slice none 0 0, .bool false, .string (⟨#[]⟩ : ByteArray), .slice none 0 0] (0, 0) _ rfl (by (with_reducible repeat (first | refine zf ?_ _ | refine zj ?_ | refine ze ?_ _)); refine zx (cs := #[.int .i64 5, .slice none 0 0, .bool false, .string (⟨#[]⟩ : ByteArray), .slice none 0 0]) ?_ 4 _ rfl; (with_reducible repeat (first | refine zf ?_ _ | refine zj ?_ | refine ze ?_ _)); refine zx (cs := #[.int .i64 5, .slice none 0 0, .bool false, .string (⟨#[]⟩ : ByteArray), .slice none 0 0]) ?_ 3 _ rfl; (with_reducible repeat (first | refine zf ?_ _ | refine zj ?_ | refine ze ?_ _)); refine zx (cs := #[.int .i64 5, .slice none 0 0, .bool false, .string (⟨#[]⟩ : ByteArray), .slice none 0 0]) ?_ 2 _ rfl; (with_reducible repeat (first | refine zf ?_ _ | refine zj ?_ | refine ze ?_ _)); refine zx (cs := #[.int .i64 5, .slice none 0 0, .bool false, .string (⟨#[]⟩ : ByteArray), .slice none 0 0]) ?_ 1 _ rfl; (with_reducible repeat (first | refine zf ?_ _ | refine zj ?_ | refine ze ?_ _)); refine zx (cs := #[.int .i64 0, .slice none 0 0, .bool false, .string (⟨#[]⟩ : ByteArray), .slice none 0 0]) ?_ 0 _ rfl; (with_reducible repeat (first | refine zf ?_ _ | refine zj ?_ | refine ze ?_ _)); refine zq ?_ zF.out _; (with_reducible repeat (first | refine zf ?_ _ | refine zj ?_ | refine ze ?_ _)); refine zq ?_ zF.out _; (with_reducible repeat (first | refine zf ?_ _ | refine zj ?_ | refine ze ?_ _)); refine zq ?_ zF.out _; (with_reducible repeat (first | refine zf ?_ _ | refine zj ?_ | refine ze ?_ _)); refine zq ?_ zF.out _; (with_reducible repeat (first | refine zf ?_ _ | refine zj ?_ | refine ze ?_ _)); refine zq ?_ zF.out _; (with_reducible repeat (first | refine zf ?_ _ | refine zj ?_ | refine ze ?_ _)); exact zC.out) Tryd.underlying66 rfl (by kernel_rfl)) rfl ?_
          exact ⟨_, _, by first | rfl | (simp [*] <;> rfl), by first | exact Kd.R_nil _ _ _ _ _ | exact Kd.N_nil _ _ _ _ _ | exact Kd.V_nil _ _ _ _ _ | exact Kd.Q_nil _ _ _ _ _ | exact Kd.S_nil _ _ _ _ _, by first | exact Kd.R_nil _ _ _ _ _ | exact Kd.N_nil _ _ _ _ _ | exact Kd.V_nil _ _ _ _ _ | exact Kd.Q_nil _ _ _ _ _ | exact Kd.S_nil _ _ _ _ _, by repeat (first | (with_reducible first | exact HB.out | apply zh | apply zd | apply zi | refine zl ?_ zK.out | refine zl ?_ zM.out) | exact HB.out)⟩
         ·rw [if_neg c54] at H
          have c54b0 : ((rdOf ByteArray.empty t192 0).toList == ([100, 117, 109, 112] : List UInt8)) = false := beq_eq_false_iff_ne.mpr c54
          have c54b1 : ((rdOf ByteArray.empty t192 0).toList != ([100, 117, 109, 112] : List UInt8)) = true := bne_iff_ne.mpr c54
          by_cases c57 : (rdOf ByteArray.empty t192 0).toList = ([115, 110, 97, 112] : List UInt8)
          ·rw [if_pos c57] at H
           have c57b0 : ((rdOf ByteArray.empty t192 0).toList == ([115, 110, 97, 112] : List UInt8)) = true := beq_iff_eq.mpr c57
           have c57b1 : ((rdOf ByteArray.empty t192 0).toList != ([115, 110, 97, 112] : List UInt8)) = false := bne_eq_false_iff_eq.mpr c57
           clear c57
           simp only [Option.some.injEq, Prod.mk.injEq] at H
           obtain ⟨rfl, rfl, rfl, rfl, rfl⟩ := H
           have p214 : 0 ≤ (0 : Int) := (by omega)
           have q214 : 0 < (t192.length : Int) := of_decide_eq_true (by with_reducible assumption)
           obtain ⟨ad214, e214, hx214_0⟩ := Kd.at_string (Kd.R_reads' zH.out).2.2 0 p214 q214
           obtain rfl : ad195 = ad214 := (by injection e214)
           have qi214 : (0 < t192.length) = True := eq_true (by omega)
           (try rw [show ((0 : Int)).toNat = 0 from rfl] at hx214_0)
           (try rw [Addr.add_zero'] at hx214_0)
           have hn214_0 : ad195.block ≠ zE := Kd.own_blk (Kd.R_ne zH.out zG.out (by decide))
           have hn214_1 : ad195.block ≠ zE := Kd.own_blk (Kd.R_ne zH.out zG.out (by decide))
           have hn214_2 : ad195.block ≠ zE := Kd.own_blk (Kd.R_ne zH.out zG.out (by decide))
           have hn214_3 : ad195.block ≠ zE := Kd.own_blk (Kd.R_ne zH.out zG.out (by decide))
           have hn214_4 : ad195.block ≠ zE := Kd.own_blk (Kd.R_ne zH.out zG.out (by decide))
           replace hx214_0 := (zw (p := ⟨zE, 0, none⟩) (by first | (rw [zg]; exact hn214_0) | (show (Addr.add _ _).block ≠ _; rw [zg]; exact hn214_0) | exact hn214_0) (.int .i64 t204)).trans hx214_0
           replace hx214_0 := (zw (p := ⟨zE, 1, none⟩) (by first | (rw [zg]; exact hn214_1) | (show (Addr.add _ _).block ≠ _; rw [zg]; exact hn214_1) | exact hn214_1) (.string t205)).trans hx214_0
           replace hx214_0 := (zw (p := ⟨zE, 2, none⟩) (by first | (rw [zg]; exact hn214_2) | (show (Addr.add _ _).block ≠ _; rw [zg]; exact hn214_2) | exact hn214_2) (.string t206)).trans hx214_0
           replace hx214_0 := (zw (p := ⟨zE, 3, none⟩) (by first | (rw [zg]; exact hn214_3) | (show (Addr.add _ _).block ≠ _; rw [zg]; exact hn214_3) | exact hn214_3) (.int .i64 t207)).trans hx214_0
           replace hx214_0 := (zw (p := ⟨zE, 4, none⟩) (by first | (rw [zg]; exact hn214_4) | (show (Addr.add _ _).block ≠ _; rw [zg]; exact hn214_4) | exact hn214_4) (.bool t208)).trans hx214_0
           clear hn214_0
           clear hn214_1
           clear hn214_2
           clear hn214_3
           clear hn214_4
           replace p214 := eq_true p214
           replace q214 := eq_true q214
           have zYf := zF.out
           have zZf := zL.out
           have zqc : w47.cell? ⟨zD, 0, none⟩ = some (.int .i64 0) := (zc zC.out 0).trans rfl
           have zrc : w47.cell? ⟨zD, 1, none⟩ = some (.slice none 0 0) := (zc zC.out 1).trans rfl
           have zsc : w47.cell? ⟨zD, 2, none⟩ = some (.bool false) := (zc zC.out 2).trans rfl
           have ztc : w47.cell? ⟨zD, 3, none⟩ = some (.string (⟨#[]⟩ : ByteArray)) := (zc zC.out 3).trans rfl
           have zuc : w47.cell? ⟨zD, 4, none⟩ = some (.slice none 0 0) := (zc zC.out 4).trans rfl
           have zvc := zb zC.out 0
           have zwc := zb zC.out 1
           have zxc := zb zC.out 2
           have zyc := zb zC.out 3
           have zzc := zb zC.out 4
           go_wp2
           refine bodyPost_ret (results_cell_row rfl _ _ zD 66 #[.int .i64 6, .slice none 0 0, .bool false, .string (⟨#[]⟩ : ByteArray), .slice none 0 0] (0, 0) _ rfl (by (with_reducible repeat (first | refine zf ?_ _ | refine zj ?_ | refine ze ?_ _)); refine zx (cs := #[.int .i64 6, .slice none 0 0, .bool false, .string (⟨#[]⟩ : ByteArray), .slice none 0 0]) ?_ 4 _ rfl; (with_reducible repeat (first | refine zf ?_ _ | refine zj ?_ | refine ze ?_ _)); refine zx (cs := #[.int .i64 6, .slice none 0 0, .bool false, .string (⟨#[]⟩ : ByteArray), .slice none 0 0]) ?_ 3 _ rfl; (with_reducible repeat (first | refine zf ?_ _ | refine zj ?_ | refine ze ?_ _)); refine zx (cs := #[.int .i64 6, .slice none 0 0, .bool false, .string (⟨#[]⟩ : ByteArray), .slice none 0 0]) ?_ 2 _ rfl; (with_reducible repeat (first | refine zf ?_ _ | refine zj ?_ | refine ze ?_ _)); refine zx (cs := #[.int .i64 6, .slice none 0 0, .bool false, .string (⟨#[]⟩ : ByteArray), .slice none 0 0]) ?_ 1 _ rfl; (with_reducible repeat (first | refine zf ?_ _ | refine zj ?_ | refine ze ?_ _)); refine zx (cs := #[.int .i64 0, .slice none 0 0, .bool false, .string (⟨#[]⟩ : ByteArray), .slice none 0 0]) ?_ 0 _ rfl; (with_reducible repeat (first | refine zf ?_ _ | refine zj ?_ | refine ze ?_ _)); refine zq ?_ zF.out _; (with_reducible repeat (first | refine zf ?_ _ | refine zj ?_ | refine ze ?_ _)); refine zq ?_ zF.out _; (with_reducible repeat (first | refine zf ?_ _ | refine zj ?_ | refine ze ?_ _)); refine zq ?_ zF.out _; (with_reducible repeat (first | refine zf ?_ _ | refine zj ?_ | refine ze ?_ _)); refine zq ?_ zF.out _; (with_reducible repeat (first | refine zf ?_ _ | refine zj ?_ | refine ze ?_ _)); refine zq ?_ zF.out _; (with_reducible repeat (first | refine zf ?_ _ | refine zj ?_ | refine ze ?_ _)); exact zC.out) Tryd.underlying66 rfl (by kernel_rfl)) rfl ?_
           exact ⟨_, _, by first | rfl | (simp [*] <;> rfl), by first | exact Kd.R_nil _ _ _ _ _ | exact Kd.N_nil _ _ _ _ _ | exact Kd.V_nil _ _ _ _ _ | exact Kd.Q_nil _ _ _ _ _ | exact Kd.S_nil _ _ _ _ _, by first | exact Kd.R_nil _ _ _ _ _ | exact Kd.N_nil _ _ _ _ _ | exact Kd.V_nil _ _ _ _ _ | exact Kd.Q_nil _ _ _ _ _ | exact Kd.S_nil _ _ _ _ _, by repeat (first | (with_reducible first | exact HB.out | apply zh | apply zd | apply zi | refine zl ?_ zK.out | refine zl ?_ zM.out) | exact HB.out)⟩
          ·rw [if_neg c57] at H
           have c57b0 : ((rdOf ByteArray.empty t192 0).toList == ([115, 110, 97, 112] : List UInt8)) = false := beq_eq_false_iff_ne.mpr c57
           have c57b1 : ((rdOf ByteArray.empty t192 0).toList != ([115, 110, 97, 112] : List UInt8)) = true := bne_iff_ne.mpr c57
           by_cases c60 : (rdOf ByteArray.empty t192 0).toList = ([114, 101, 99, 111, 118, 101, 114] : List UInt8)
           ·rw [if_pos c60] at H
            have c60b0 : ((rdOf ByteArray.empty t192 0).toList == ([114, 101, 99, 111, 118, 101, 114] : List UInt8)) = true := beq_iff_eq.mpr c60
            have c60b1 : ((rdOf ByteArray.empty t192 0).toList != ([114, 101, 99, 111, 118, 101, 114] : List UInt8)) = false := bne_eq_false_iff_eq.mpr c60
            clear c60
            simp only [Option.some.injEq, Prod.mk.injEq] at H
            obtain ⟨rfl, rfl, rfl, rfl, rfl⟩ := H
            have p214 : 0 ≤ (0 : Int) := (by omega)
            have q214 : 0 < (t192.length : Int) := of_decide_eq_true (by with_reducible assumption)
            obtain ⟨ad214, e214, hx214_0⟩ := Kd.at_string (Kd.R_reads' zH.out).2.2 0 p214 q214
            obtain rfl : ad195 = ad214 := (by injection e214)
            have qi214 : (0 < t192.length) = True := eq_true (by omega)
            (try rw [show ((0 : Int)).toNat = 0 from rfl] at hx214_0)
            (try rw [Addr.add_zero'] at hx214_0)
            have hn214_0 : ad195.block ≠ zE := Kd.own_blk (Kd.R_ne zH.out zG.out (by decide))
            have hn214_1 : ad195.block ≠ zE := Kd.own_blk (Kd.R_ne zH.out zG.out (by decide))
            have hn214_2 : ad195.block ≠ zE := Kd.own_blk (Kd.R_ne zH.out zG.out (by decide))
            have hn214_3 : ad195.block ≠ zE := Kd.own_blk (Kd.R_ne zH.out zG.out (by decide))
            have hn214_4 : ad195.block ≠ zE := Kd.own_blk (Kd.R_ne zH.out zG.out (by decide))
            replace hx214_0 := (zw (p := ⟨zE, 0, none⟩) (by first | (rw [zg]; exact hn214_0) | (show (Addr.add _ _).block ≠ _; rw [zg]; exact hn214_0) | exact hn214_0) (.int .i64 t204)).trans hx214_0
            replace hx214_0 := (zw (p := ⟨zE, 1, none⟩) (by first | (rw [zg]; exact hn214_1) | (show (Addr.add _ _).block ≠ _; rw [zg]; exact hn214_1) | exact hn214_1) (.string t205)).trans hx214_0
            replace hx214_0 := (zw (p := ⟨zE, 2, none⟩) (by first | (rw [zg]; exact hn214_2) | (show (Addr.add _ _).block ≠ _; rw [zg]; exact hn214_2) | exact hn214_2) (.string t206)).trans hx214_0
            replace hx214_0 := (zw (p := ⟨zE, 3, none⟩) (by first | (rw [zg]; exact hn214_3) | (show (Addr.add _ _).block ≠ _; rw [zg]; exact hn214_3) | exact hn214_3) (.int .i64 t207)).trans hx214_0
            replace hx214_0 := (zw (p := ⟨zE, 4, none⟩) (by first | (rw [zg]; exact hn214_4) | (show (Addr.add _ _).block ≠ _; rw [zg]; exact hn214_4) | exact hn214_4) (.bool t208)).trans hx214_0
            clear hn214_0
            clear hn214_1
            clear hn214_2
            clear hn214_3
            clear hn214_4
            replace p214 := eq_true p214
            replace q214 := eq_true q214
            have zag := zF.out
            have zbg := zL.out
            have zAc : w47.cell? ⟨zD, 0, none⟩ = some (.int .i64 0) := (zc zC.out 0).trans rfl
            have zBc : w47.cell? ⟨zD, 1, none⟩ = some (.slice none 0 0) := (zc zC.out 1).trans rfl
            have zCc : w47.cell? ⟨zD, 2, none⟩ = some (.bool false) := (zc zC.out 2).trans rfl
            have zDc : w47.cell? ⟨zD, 3, none⟩ = some (.string (⟨#[]⟩ : ByteArray)) := (zc zC.out 3).trans rfl
            have zEc : w47.cell? ⟨zD, 4, none⟩ = some (.slice none 0 0) := (zc zC.out 4).trans rfl
            have zFc := zb zC.out 0
            have zGc := zb zC.out 1
            have zHc := zb zC.out 2
            have zIc := zb zC.out 3
            have zJc := zb zC.out 4
            go_wp2
            refine bodyPost_ret (results_cell_row rfl _ _ zD 66 #[.int .i64 11, .slice none 0 0, .bool false, .string (⟨#[]⟩ : ByteArray), .slice none 0 0] (0, 0) _ rfl (by (with_reducible repeat (first | refine zf ?_ _ | refine zj ?_ | refine ze ?_ _)); refine zx (cs := #[.int .i64 11, .slice none 0 0, .bool false, .string (⟨#[]⟩ : ByteArray), .slice none 0 0]) ?_ 4 _ rfl; (with_reducible repeat (first | refine zf ?_ _ | refine zj ?_ | refine ze ?_ _)); refine zx (cs := #[.int .i64 11, .slice none 0 0, .bool false, .string (⟨#[]⟩ : ByteArray), .slice none 0 0]) ?_ 3 _ rfl; (with_reducible repeat (first | refine zf ?_ _ | refine zj ?_ | refine ze ?_ _)); refine zx (cs := #[.int .i64 11, .slice none 0 0, .bool false, .string (⟨#[]⟩ : ByteArray), .slice none 0 0]) ?_ 2 _ rfl; (with_reducible repeat (first | refine zf ?_ _ | refine zj ?_ | refine ze ?_ _)); refine zx (cs := #[.int .i64 11, .slice none 0 0, .bool false, .string (⟨#[]⟩ : ByteArray), .slice none 0 0]) ?_ 1 _ rfl; (with_reducible repeat (first | refine zf ?_ _ | refine zj ?_ | refine ze ?_ _)); refine zx (cs := #[.int .i64 0, .slice none 0 0, .bool false, .string (⟨#[]⟩ : ByteArray), .slice none 0 0]) ?_ 0 _ rfl; (with_reducible repeat (first | refine zf ?_ _ | refine zj ?_ | refine ze ?_ _)); refine zq ?_ zF.out _; (with_reducible repeat (first | refine zf ?_ _ | refine zj ?_ | refine ze ?_ _)); refine zq ?_ zF.out _; (with_reducible repeat (first | refine zf ?_ _ | refine zj ?_ | refine ze ?_ _)); refine zq ?_ zF.out _; (with_reducible repeat (first | refine zf ?_ _ | refine zj ?_ | refine ze ?_ _)); refine zq ?_ zF.out _; (with_reducible repeat (first | refine zf ?_ _ | refine zj ?_ | refine ze ?_ _)); refine zq ?_ zF.out _; (with_reducible repeat (first | refine zf ?_ _ | refine zj ?_ | refine ze ?_ _)); exact zC.out) Tryd.underlying66 rfl (by kernel_rfl)) rfl ?_
            exact ⟨_, _, by first | rfl | (simp [*] <;> rfl), by first | exact Kd.R_nil _ _ _ _ _ | exact Kd.N_nil _ _ _ _ _ | exact Kd.V_nil _ _ _ _ _ | exact Kd.Q_nil _ _ _ _ _ | exact Kd.S_nil _ _ _ _ _, by first | exact Kd.R_nil _ _ _ _ _ | exact Kd.N_nil _ _ _ _ _ | exact Kd.V_nil _ _ _ _ _ | exact Kd.Q_nil _ _ _ _ _ | exact Kd.S_nil _ _ _ _ _, by repeat (first | (with_reducible first | exact HB.out | apply zh | apply zd | apply zi | refine zl ?_ zK.out | refine zl ?_ zM.out) | exact HB.out)⟩
           ·rw [if_neg c60] at H
            have c60b0 : ((rdOf ByteArray.empty t192 0).toList == ([114, 101, 99, 111, 118, 101, 114] : List UInt8)) = false := beq_eq_false_iff_ne.mpr c60
            have c60b1 : ((rdOf ByteArray.empty t192 0).toList != ([114, 101, 99, 111, 118, 101, 114] : List UInt8)) = true := bne_iff_ne.mpr c60
            by_cases c63 : (rdOf ByteArray.empty t192 0).toList = ([115, 116, 97, 116, 117, 115] : List UInt8)
            ·rw [if_pos c63] at H
             have c63b0 : ((rdOf ByteArray.empty t192 0).toList == ([115, 116, 97, 116, 117, 115] : List UInt8)) = true := beq_iff_eq.mpr c63
             have c63b1 : ((rdOf ByteArray.empty t192 0).toList != ([115, 116, 97, 116, 117, 115] : List UInt8)) = false := bne_eq_false_iff_eq.mpr c63
             clear c63
             simp only [Option.some.injEq, Prod.mk.injEq] at H
             obtain ⟨rfl, rfl, rfl, rfl, rfl⟩ := H
             have p214 : 0 ≤ (0 : Int) := (by omega)
             have q214 : 0 < (t192.length : Int) := of_decide_eq_true (by with_reducible assumption)
             obtain ⟨ad214, e214, hx214_0⟩ := Kd.at_string (Kd.R_reads' zH.out).2.2 0 p214 q214
             obtain rfl : ad195 = ad214 := (by injection e214)
             have qi214 : (0 < t192.length) = True := eq_true (by omega)
             (try rw [show ((0 : Int)).toNat = 0 from rfl] at hx214_0)
             (try rw [Addr.add_zero'] at hx214_0)
             have hn214_0 : ad195.block ≠ zE := Kd.own_blk (Kd.R_ne zH.out zG.out (by decide))
             have hn214_1 : ad195.block ≠ zE := Kd.own_blk (Kd.R_ne zH.out zG.out (by decide))
             have hn214_2 : ad195.block ≠ zE := Kd.own_blk (Kd.R_ne zH.out zG.out (by decide))
             have hn214_3 : ad195.block ≠ zE := Kd.own_blk (Kd.R_ne zH.out zG.out (by decide))
             have hn214_4 : ad195.block ≠ zE := Kd.own_blk (Kd.R_ne zH.out zG.out (by decide))
             replace hx214_0 := (zw (p := ⟨zE, 0, none⟩) (by first | (rw [zg]; exact hn214_0) | (show (Addr.add _ _).block ≠ _; rw [zg]; exact hn214_0) | exact hn214_0) (.int .i64 t204)).trans hx214_0
             replace hx214_0 := (zw (p := ⟨zE, 1, none⟩) (by first | (rw [zg]; exact hn214_1) | (show (Addr.add _ _).block ≠ _; rw [zg]; exact hn214_1) | exact hn214_1) (.string t205)).trans hx214_0
             replace hx214_0 := (zw (p := ⟨zE, 2, none⟩) (by first | (rw [zg]; exact hn214_2) | (show (Addr.add _ _).block ≠ _; rw [zg]; exact hn214_2) | exact hn214_2) (.string t206)).trans hx214_0
             replace hx214_0 := (zw (p := ⟨zE, 3, none⟩) (by first | (rw [zg]; exact hn214_3) | (show (Addr.add _ _).block ≠ _; rw [zg]; exact hn214_3) | exact hn214_3) (.int .i64 t207)).trans hx214_0
             replace hx214_0 := (zw (p := ⟨zE, 4, none⟩) (by first | (rw [zg]; exact hn214_4) | (show (Addr.add _ _).block ≠ _; rw [zg]; exact hn214_4) | exact hn214_4) (.bool t208)).trans hx214_0
             clear hn214_0
             clear hn214_1
             clear hn214_2
             clear hn214_3
             clear hn214_4
             replace p214 := eq_true p214
             replace q214 := eq_true q214
             have zcg := zF.out
             have zdg := zL.out
             have zKc : w47.cell? ⟨zD, 0, none⟩ = some (.int .i64 0) := (zc zC.out 0).trans rfl
             have zLc : w47.cell? ⟨zD, 1, none⟩ = some (.slice none 0 0) := (zc zC.out 1).trans rfl
             have zMc : w47.cell? ⟨zD, 2, none⟩ = some (.bool false) := (zc zC.out 2).trans rfl
             have zNc : w47.cell? ⟨zD, 3, none⟩ = some (.string (⟨#[]⟩ : ByteArray)) := (zc zC.out 3).trans rfl
             have zOc : w47.cell? ⟨zD, 4, none⟩ = some (.slice none 0 0) := (zc zC.out 4).trans rfl
             have zPc := zb zC.out 0
             have zQc := zb zC.out 1
             have zRc := zb zC.out 2
             have zSc := zb zC.out 3
             have zTc := zb zC.out 4
             go_wp2
             refine bodyPost_ret (results_cell_row rfl _ _ zD 66 #[.int .i64 12, .slice none 0 0, .bool false, .string (⟨#[]⟩ : ByteArray), .slice none 0 0] (0, 0) _ rfl (by (with_reducible repeat (first | refine zf ?_ _ | refine zj ?_ | refine ze ?_ _)); refine zx (cs := #[.int .i64 12, .slice none 0 0, .bool false, .string (⟨#[]⟩ : ByteArray), .slice none 0 0]) ?_ 4 _ rfl; (with_reducible repeat (first | refine zf ?_ _ | refine zj ?_ | refine ze ?_ _)); refine zx (cs := #[.int .i64 12, .slice none 0 0, .bool false, .string (⟨#[]⟩ : ByteArray), .slice none 0 0]) ?_ 3 _ rfl; (with_reducible repeat (first | refine zf ?_ _ | refine zj ?_ | refine ze ?_ _)); refine zx (cs := #[.int .i64 12, .slice none 0 0, .bool false, .string (⟨#[]⟩ : ByteArray), .slice none 0 0]) ?_ 2 _ rfl; (with_reducible repeat (first | refine zf ?_ _ | refine zj ?_ | refine ze ?_ _)); refine zx (cs := #[.int .i64 12, .slice none 0 0, .bool false, .string (⟨#[]⟩ : ByteArray), .slice none 0 0]) ?_ 1 _ rfl; (with_reducible repeat (first | refine zf ?_ _ | refine zj ?_ | refine ze ?_ _)); refine zx (cs := #[.int .i64 0, .slice none 0 0, .bool false, .string (⟨#[]⟩ : ByteArray), .slice none 0 0]) ?_ 0 _ rfl; (with_reducible repeat (first | refine zf ?_ _ | refine zj ?_ | refine ze ?_ _)); refine zq ?_ zF.out _; (with_reducible repeat (first | refine zf ?_ _ | refine zj ?_ | refine ze ?_ _)); refine zq ?_ zF.out _; (with_reducible repeat (first | refine zf ?_ _ | refine zj ?_ | refine ze ?_ _)); refine zq ?_ zF.out _; (with_reducible repeat (first | refine zf ?_ _ | refine zj ?_ | refine ze ?_ _)); refine zq ?_ zF.out _; (with_reducible repeat (first | refine zf ?_ _ | refine zj ?_ | refine ze ?_ _)); refine zq ?_ zF.out _; (with_reducible repeat (first | refine zf ?_ _ | refine zj ?_ | refine ze ?_ _)); exact zC.out) Tryd.underlying66 rfl (by kernel_rfl)) rfl ?_
             exact ⟨_, _, by first | rfl | (simp [*] <;> rfl), by first | exact Kd.R_nil _ _ _ _ _ | exact Kd.N_nil _ _ _ _ _ | exact Kd.V_nil _ _ _ _ _ | exact Kd.Q_nil _ _ _ _ _ | exact Kd.S_nil _ _ _ _ _, by first | exact Kd.R_nil _ _ _ _ _ | exact Kd.N_nil _ _ _ _ _ | exact Kd.V_nil _ _ _ _ _ | exact Kd.Q_nil _ _ _ _ _ | exact Kd.S_nil _ _ _ _ _, by repeat (first | (with_reducible first | exact HB.out | apply zh | apply zd | apply zi | refine zl ?_ zK.out | refine zl ?_ zM.out) | exact HB.out)⟩
            ·rw [if_neg c63] at H
             have c63b0 : ((rdOf ByteArray.empty t192 0).toList == ([115, 116, 97, 116, 117, 115] : List UInt8)) = false := beq_eq_false_iff_ne.mpr c63
             have c63b1 : ((rdOf ByteArray.empty t192 0).toList != ([115, 116, 97, 116, 117, 115] : List UInt8)) = true := bne_iff_ne.mpr c63
             have H' := Aside0.mk H
             clear H
             have p214 : 0 ≤ (0 : Int) := (by omega)
             have q214 : 0 < (t192.length : Int) := of_decide_eq_true (by with_reducible assumption)
             obtain ⟨ad214, e214, hx214_0⟩ := Kd.at_string (Kd.R_reads' zH.out).2.2 0 p214 q214
             obtain rfl : ad195 = ad214 := (by injection e214)
             have qi214 : (0 < t192.length) = True := eq_true (by omega)
             (try rw [show ((0 : Int)).toNat = 0 from rfl] at hx214_0)
             (try rw [Addr.add_zero'] at hx214_0)
             have hn214_0 : ad195.block ≠ zE := Kd.own_blk (Kd.R_ne zH.out zG.out (by decide))
             have hn214_1 : ad195.block ≠ zE := Kd.own_blk (Kd.R_ne zH.out zG.out (by decide))
             have hn214_2 : ad195.block ≠ zE := Kd.own_blk (Kd.R_ne zH.out zG.out (by decide))
             have hn214_3 : ad195.block ≠ zE := Kd.own_blk (Kd.R_ne zH.out zG.out (by decide))
             have hn214_4 : ad195.block ≠ zE := Kd.own_blk (Kd.R_ne zH.out zG.out (by decide))
             replace hx214_0 := (zw (p := ⟨zE, 0, none⟩) (by first | (rw [zg]; exact hn214_0) | (show (Addr.add _ _).block ≠ _; rw [zg]; exact hn214_0) | exact hn214_0) (.int .i64 t204)).trans hx214_0
             replace hx214_0 := (zw (p := ⟨zE, 1, none⟩) (by first | (rw [zg]; exact hn214_1) | (show (Addr.add _ _).block ≠ _; rw [zg]; exact hn214_1) | exact hn214_1) (.string t205)).trans hx214_0
             replace hx214_0 := (zw (p := ⟨zE, 2, none⟩) (by first | (rw [zg]; exact hn214_2) | (show (Addr.add _ _).block ≠ _; rw [zg]; exact hn214_2) | exact hn214_2) (.string t206)).trans hx214_0
             replace hx214_0 := (zw (p := ⟨zE, 3, none⟩) (by first | (rw [zg]; exact hn214_3) | (show (Addr.add _ _).block ≠ _; rw [zg]; exact hn214_3) | exact hn214_3) (.int .i64 t207)).trans hx214_0
             replace hx214_0 := (zw (p := ⟨zE, 4, none⟩) (by first | (rw [zg]; exact hn214_4) | (show (Addr.add _ _).block ≠ _; rw [zg]; exact hn214_4) | exact hn214_4) (.bool t208)).trans hx214_0
             clear hn214_0
             clear hn214_1
             clear hn214_2
             clear hn214_3
             clear hn214_4
             replace p214 := eq_true p214
             replace q214 := eq_true q214
             go_wp2
             go_meet
             case rel => exact ⟨_, (0), (false), ((⟨#[]⟩ : ByteArray)), H', ⟨by first | omega | exact Nat.le_refl _⟩, ⟨RL (Kd.R_mono (Kd.R_far (p := ⟨zE, 4, none⟩) (Kd.R_far (p := ⟨zE, 3, none⟩) (Kd.R_far (p := ⟨zE, 2, none⟩) (Kd.R_far (p := ⟨zE, 1, none⟩) (Kd.R_far (p := ⟨zE, 0, none⟩) (Kd.R_types zH.out zG.out (by decide)) (fun _ hk => hk.2) (.int .i64 t204)) (fun _ hk => hk.2) (.string t205)) (fun _ hk => hk.2) (.string t206)) (fun _ hk => hk.2) (.int .i64 t207)) (fun _ hk => hk.2) (.bool t208)) (fun _ hk => trivial))⟩, ⟨by (with_reducible repeat (first | refine zf ?_ _ | refine zj ?_ | refine ze ?_ _)); refine zq ?_ zF.out _; (with_reducible repeat (first | refine zf ?_ _ | refine zj ?_ | refine ze ?_ _)); refine zq ?_ zF.out _; (with_reducible repeat (first | refine zf ?_ _ | refine zj ?_ | refine ze ?_ _)); refine zq ?_ zF.out _; (with_reducible repeat (first | refine zf ?_ _ | refine zj ?_ | refine ze ?_ _)); refine zq ?_ zF.out _; (with_reducible repeat (first | refine zf ?_ _ | refine zj ?_ | refine ze ?_ _)); refine zq ?_ zF.out _; (with_reducible repeat (first | refine zf ?_ _ | refine zj ?_ | refine ze ?_ _)); exact zC.out⟩, ⟨by (with_reducible repeat (first | refine zf ?_ _ | refine zj ?_ | refine ze ?_ _)); refine zx (cs := #[.int .i64 t204, .string t205, .string t206, .int .i64 t207, .bool false]) ?_ 4 _ rfl; (with_reducible repeat (first | refine zf ?_ _ | refine zj ?_ | refine ze ?_ _)); refine zx (cs := #[.int .i64 t204, .string t205, .string t206, .int .i64 0, .bool false]) ?_ 3 _ rfl; (with_reducible repeat (first | refine zf ?_ _ | refine zj ?_ | refine ze ?_ _)); refine zx (cs := #[.int .i64 t204, .string t205, .string (⟨#[]⟩ : ByteArray), .int .i64 0, .bool false]) ?_ 2 _ rfl; (with_reducible repeat (first | refine zf ?_ _ | refine zj ?_ | refine ze ?_ _)); refine zx (cs := #[.int .i64 t204, .string (⟨#[]⟩ : ByteArray), .string (⟨#[]⟩ : ByteArray), .int .i64 0, .bool false]) ?_ 1 _ rfl; (with_reducible repeat (first | refine zf ?_ _ | refine zj ?_ | refine ze ?_ _)); refine zx (cs := #[.int .i64 0, .string (⟨#[]⟩ : ByteArray), .string (⟨#[]⟩ : ByteArray), .int .i64 0, .bool false]) ?_ 0 _ rfl; (with_reducible repeat (first | refine zf ?_ _ | refine zj ?_ | refine ze ?_ _)); exact zG.out⟩, ⟨by repeat (first | (with_reducible first | exact HB.out | apply zh | apply zd | apply zi | refine zl ?_ zK.out | refine zl ?_ zM.out) | exact HB.out)⟩⟩
       ·rw [if_neg c50] at H
        have c50b0 : ((t192.length : Int) == 1) = false := beq_eq_false_iff_ne.mpr c50
        have c50b1 : ((t192.length : Int) != 1) = true := bne_iff_ne.mpr c50
        (first | rw [c50b0] | (simp only [zr, zt]; rw [c50b0]) | skip)
        have H' := Aside0.mk H
        clear H
        go_wp2
        go_meet
        case rel => exact ⟨_, (0), (false), ((⟨#[]⟩ : ByteArray)), H', ⟨by first | omega | exact Nat.le_refl _⟩, ⟨RL (Kd.R_mono (Kd.R_far (p := ⟨zE, 4, none⟩) (Kd.R_far (p := ⟨zE, 3, none⟩) (Kd.R_far (p := ⟨zE, 2, none⟩) (Kd.R_far (p := ⟨zE, 1, none⟩) (Kd.R_far (p := ⟨zE, 0, none⟩) (Kd.R_types zH.out zG.out (by decide)) (fun _ hk => hk.2) (.int .i64 t204)) (fun _ hk => hk.2) (.string t205)) (fun _ hk => hk.2) (.string t206)) (fun _ hk => hk.2) (.int .i64 t207)) (fun _ hk => hk.2) (.bool t208)) (fun _ hk => trivial))⟩, ⟨by (with_reducible repeat (first | refine zf ?_ _ | refine zj ?_ | refine ze ?_ _)); refine zq ?_ zF.out _; (with_reducible repeat (first | refine zf ?_ _ | refine zj ?_ | refine ze ?_ _)); refine zq ?_ zF.out _; (with_reducible repeat (first | refine zf ?_ _ | refine zj ?_ | refine ze ?_ _)); refine zq ?_ zF.out _; (with_reducible repeat (first | refine zf ?_ _ | refine zj ?_ | refine ze ?_ _)); refine zq ?_ zF.out _; (with_reducible repeat (first | refine zf ?_ _ | refine zj ?_ | refine ze ?_ _)); refine zq ?_ zF.out _; (with_reducible repeat (first | refine zf ?_ _ | refine zj ?_ | refine ze ?_ _)); exact zC.out⟩, ⟨by (with_reducible repeat (first | refine zf ?_ _ | refine zj ?_ | refine ze ?_ _)); refine zx (cs := #[.int .i64 t204, .string t205, .string t206, .int .i64 t207, .bool false]) ?_ 4 _ rfl; (with_reducible repeat (first | refine zf ?_ _ | refine zj ?_ | refine ze ?_ _)); refine zx (cs := #[.int .i64 t204, .string t205, .string t206, .int .i64 0, .bool false]) ?_ 3 _ rfl; (with_reducible repeat (first | refine zf ?_ _ | refine zj ?_ | refine ze ?_ _)); refine zx (cs := #[.int .i64 t204, .string t205, .string (⟨#[]⟩ : ByteArray), .int .i64 0, .bool false]) ?_ 2 _ rfl; (with_reducible repeat (first | refine zf ?_ _ | refine zj ?_ | refine ze ?_ _)); refine zx (cs := #[.int .i64 t204, .string (⟨#[]⟩ : ByteArray), .string (⟨#[]⟩ : ByteArray), .int .i64 0, .bool false]) ?_ 1 _ rfl; (with_reducible repeat (first | refine zf ?_ _ | refine zj ?_ | refine ze ?_ _)); refine zx (cs := #[.int .i64 0, .string (⟨#[]⟩ : ByteArray), .string (⟨#[]⟩ : ByteArray), .int .i64 0, .bool false]) ?_ 0 _ rfl; (with_reducible repeat (first | refine zf ?_ _ | refine zj ?_ | refine ze ?_ _)); exact zG.out⟩, ⟨by repeat (first | (with_reducible first | exact HB.out | apply zh | apply zd | apply zi | refine zl ?_ zK.out | refine zl ?_ zM.out) | exact HB.out)⟩⟩
      case rest =>
       clear HC42
       try clear c1
       try clear p1
       try clear q1
       try clear hx1
       try clear qi1
       try clear c2
       try clear c2b0
       try clear c2b1
       try clear p2
       try clear q2
       try clear hx2
       try clear qi2
       try clear c3
       try clear c4
       try clear c5
       try clear c6
       try clear c6b0
       try clear c6b1
       try clear c6b2
       try clear c7
       try clear c11
       try clear c11b0
       try clear c11b1
       try clear c12
       try clear c12b0
       try clear c12b1
       try clear c13
       try clear c13b0
       try clear c13b1
       try clear c15
       try clear c19
       try clear p19
       try clear q19
       try clear hx19
       try clear qi19
       try clear p21
       try clear q21
       try clear hx21
       try clear qi21
       try clear c26
       try clear q26
       try clear c27
       try clear c30
       try clear c36
       try clear c48
       try clear c50
       try clear c50b0
       try clear c50b1
       try clear c51
       try clear c51b0
       try clear c51b1
       try clear c52
       try clear c54
       try clear c54b0
       try clear c54b1
       try clear c55
       try clear c57
       try clear c57b0
       try clear c57b1
       try clear c58
       try clear c60
       try clear c60b0
       try clear c60b1
       try clear c61
       try clear c63
       try clear c63b0
       try clear c63b1
       try clear c64
       try clear zO
       try clear zP
       try clear zQ
       try clear zR
       try clear zS
       try clear zY
       try clear zZ
       try clear zab
       try clear zbb
       try clear zcb
       try clear zib
       try clear zjb
       try clear zkb
       try clear zlb
       try clear zmb
       try clear zsb
       try clear ztb
       try clear zub
       try clear zvb
       try clear zwb
       try clear zCb
       try clear zDb
       try clear zEb
       try clear zFb
       try clear zGb
       try clear zMb
       try clear zNb
       try clear zOb
       try clear zPb
       try clear zQb
       try clear zVc
       try clear zWc
       try clear zXc
       try clear zYc
       try clear zZc
       try clear zWb
       try clear zXb
       try clear zYb
       try clear zZb
       try clear zac
       try clear zgc
       try clear zhc
       try clear zic
       try clear zjc
       try clear zkc
       try clear zqc
       try clear zrc
       try clear zsc
       try clear ztc
       try clear zuc
       try clear zAc
       try clear zBc
       try clear zCc
       try clear zDc
       try clear zEc
       try clear zKc
       try clear zLc
       try clear zMc
       try clear zNc
       try clear zOc
       try clear zT
       try clear zU
       try clear zV
       try clear zW
       try clear zX
       try clear zdb
       try clear zeb
       try clear zfb
       try clear zgb
       try clear zhb
       try clear znb
       try clear zob
       try clear zpb
       try clear zqb
       try clear zrb
       try clear zxb
       try clear zyb
       try clear zzb
       try clear zAb
       try clear zBb
       try clear zHb
       try clear zIb
       try clear zJb
       try clear zKb
       try clear zLb
       try clear zRb
       try clear zSb
       try clear zTb
       try clear zUb
       try clear zVb
       try clear zad
       try clear zbd
       try clear zcd
       try clear zdd
       try clear zed
       try clear zbc
       try clear zcc
       try clear zdc
       try clear zec
       try clear zfc
       try clear zlc
       try clear zmc
       try clear znc
       try clear zoc
       try clear zpc
       try clear zvc
       try clear zwc
       try clear zxc
       try clear zyc
       try clear zzc
       try clear zFc
       try clear zGc
       try clear zHc
       try clear zIc
       try clear zJc
       try clear zPc
       try clear zQc
       try clear zRc
       try clear zSc
       try clear zTc
       try clear hx195_0
       try clear hx214_0
       try clear p195
       try clear p214
       try clear q19
       try clear q195
       try clear q214
       try clear q26
       obtain ⟨kq, x192000_41, x192002_41, x192003_41, HA, HJ41, zI, zC, zG, HB⟩ := hcut
       cases kq with
       | zero => exact absurd HA.out (by simp [spec_ParseLine.j0])
       | succ kj41 =>
        have H := HA.out
        clear HA
        simp only [spec_ParseLine.j0] at H
        have HC66 := Aside0.mk H
        clear H
        go_upto_region 26 with (fail)
        go_cut [74] (fun v74 wc => ∃ (kq : Nat) (x74_65 : Bool), v74 = .bool x74_65 ∧ Aside0 (spec_ParseLine.j1 kq t192 x74_65 = some (r1, r2, r3, r4, r5)) ∧ Aside0 (kq ≤ kj41) ∧ Aside0 (Kd.R Kd.string 9 wc w.heap.size (fun _ => True) (.slice (some ad195) t192.length co45) t192) ∧ Aside0 (wc.heap[zD]? = some (.cells #[.int .i64 x192000_41, (.slice none 0 0), .bool x192002_41, .string x192003_41, (.slice none 0 0)] 66 (0, 0))) ∧ Aside0 (wc.heap[zE]? = some (.cells #[.int .i64 t204, .string t205, .string t206, .int .i64 t207, .bool t208] 124 (0, 0))) ∧ Aside0 (Below w.heap.size w wc))
        case first =>
         have H := HC66.out
         clear HC66
         by_cases c67 : (t192.length : Int) = 2
         ·rw [if_pos c67] at H
          have c67b0 : ((t192.length : Int) == 2) = true := beq_iff_eq.mpr c67
          have c67b1 : ((t192.length : Int) != 2) = false := bne_eq_false_iff_eq.mpr c67
          clear c67
          (first | rw [c67b0] | (simp only [zr, zt]; rw [c67b0]) | skip)
          by_cases c68 : 0 < (t192.length : Int)
          ·rw [if_pos c68] at H
           have c68b0 : decide (0 < (t192.length : Int)) = true := decide_eq_true c68
           have c68b1 : decide (0 < t192.length) = true := decide_eq_true (by omega)
           clear c68
           have H' := Aside0.mk H
           clear H
           have p215 : 0 ≤ (0 : Int) := (by omega)
           have q215 : 0 < (t192.length : Int) := of_decide_eq_true (by with_reducible assumption)
           obtain ⟨ad215, e215, hx215_0⟩ := Kd.at_string (Kd.R_reads' zI.out).2.2 0 p215 q215
           obtain rfl : ad195 = ad215 := (by injection e215)
           have qi215 : (0 < t192.length) = True := eq_true (by omega)
           (try rw [show ((0 : Int)).toNat = 0 from rfl] at hx215_0)
           (try rw [Addr.add_zero'] at hx215_0)
           replace p215 := eq_true p215
           replace q215 := eq_true q215
           go_wp2
           go_meet
           case rel => exact ⟨_, (((rdOf ByteArray.empty t192 0).toList == ([103, 101, 116] : List UInt8))), (by first | rfl | (simp [*]; done)), H', ⟨by have := HJ41.out; first | omega | exact Nat.le_refl _⟩, ⟨RL zI.out⟩, ⟨BL zC.out⟩, ⟨BL zG.out⟩, ⟨by repeat (first | (with_reducible first | exact HB.out | apply zh | apply zd | apply zi | refine zl ?_ zK.out | refine zl ?_ zM.out) | exact HB.out)⟩⟩
          ·rw [if_neg c68] at H
           exact absurd H (by simp)
         ·rw [if_neg c67] at H
          have c67b0 : ((t192.length : Int) == 2) = false := beq_eq_false_iff_ne.mpr c67
          have c67b1 : ((t192.length : Int) != 2) = true := bne_iff_ne.mpr c67
          (first | rw [c67b0] | (simp only [zr, zt]; rw [c67b0]) | skip)
          have H' := Aside0.mk H
          clear H
          go_wp2
          go_meet
          case rel => exact ⟨_, (false), (by first | rfl | (simp [*]; done)), H', ⟨by have := HJ41.out; first | omega | exact Nat.le_refl _⟩, ⟨RL zI.out⟩, ⟨BL zC.out⟩, ⟨BL zG.out⟩, ⟨by repeat (first | (with_reducible first | exact HB.out | apply zh | apply zd | apply zi | refine zl ?_ zK.out | refine zl ?_ zM.out) | exact HB.out)⟩⟩
        case rest =>
         clear HC66
         try clear c1
         try clear p1
         try clear q1
         try clear hx1
         try clear qi1
         try clear c2
         try clear c2b0
         try clear c2b1
         try clear p2
         try clear q2
         try clear hx2
         try clear qi2
         try clear c3
         try clear c4
         try clear c5
         try clear c6
         try clear c6b0
         try clear c6b1
         try clear c6b2
         try clear c7
         try clear c11
         try clear c11b0
         try clear c11b1
         try clear c12
         try clear c12b0
         try clear c12b1
         try clear c13
         try clear c13b0
         try clear c13b1
         try clear c15
         try clear c19
         try clear p19
         try clear q19
         try clear hx19
         try clear qi19
         try clear p21
         try clear q21
         try clear hx21
         try clear qi21
         try clear c26
         try clear q26
         try clear c27
         try clear c30
         try clear c36
         try clear c48
         try clear c50
         try clear c50b0
         try clear c50b1
         try clear c51
         try clear c51b0
         try clear c51b1
         try clear c52
         try clear c54
         try clear c54b0
         try clear c54b1
         try clear c55
         try clear c57
         try clear c57b0
         try clear c57b1
         try clear c58
         try clear c60
         try clear c60b0
         try clear c60b1
         try clear c61
         try clear c63
         try clear c63b0
         try clear c63b1
         try clear c64
         try clear c67
         try clear c67b0
         try clear c67b1
         try clear c68
         try clear c68b0
         try clear c68b1
         try clear zO
         try clear zP
         try clear zQ
         try clear zR
         try clear zS
         try clear zY
         try clear zZ
         try clear zab
         try clear zbb
         try clear zcb
         try clear zib
         try clear zjb
         try clear zkb
         try clear zlb
         try clear zmb
         try clear zsb
         try clear ztb
         try clear zub
         try clear zvb
         try clear zwb
         try clear zCb
         try clear zDb
         try clear zEb
         try clear zFb
         try clear zGb
         try clear zMb
         try clear zNb
         try clear zOb
         try clear zPb
         try clear zQb
         try clear zVc
         try clear zWc
         try clear zXc
         try clear zYc
         try clear zZc
         try clear zWb
         try clear zXb
         try clear zYb
         try clear zZb
         try clear zac
         try clear zgc
         try clear zhc
         try clear zic
         try clear zjc
         try clear zkc
         try clear zqc
         try clear zrc
         try clear zsc
         try clear ztc
         try clear zuc
         try clear zAc
         try clear zBc
         try clear zCc
         try clear zDc
         try clear zEc
         try clear zKc
         try clear zLc
         try clear zMc
         try clear zNc
         try clear zOc
         try clear zT
         try clear zU
         try clear zV
         try clear zW
         try clear zX
         try clear zdb
         try clear zeb
         try clear zfb
         try clear zgb
         try clear zhb
         try clear znb
         try clear zob
         try clear zpb
         try clear zqb
         try clear zrb
         try clear zxb
         try clear zyb
         try clear zzb
         try clear zAb
         try clear zBb
         try clear zHb
         try clear zIb
         try clear zJb
         try clear zKb
         try clear zLb
         try clear zRb
         try clear zSb
         try clear zTb
         try clear zUb
         try clear zVb
         try clear zad
         try clear zbd
         try clear zcd
         try clear zdd
         try clear zed
         try clear zbc
         try clear zcc
         try clear zdc
         try clear zec
         try clear zfc
         try clear zlc
         try clear zmc
         try clear znc
         try clear zoc
         try clear zpc
         try clear zvc
         try clear zwc
         try clear zxc
         try clear zyc
         try clear zzc
         try clear zFc
         try clear zGc
         try clear zHc
         try clear zIc
         try clear zJc
         try clear zPc
         try clear zQc
         try clear zRc
         try clear zSc
         try clear zTc
         try clear hx195_0
         try clear hx214_0
         try clear hx215_0
         try clear p1
         try clear p19
         try clear p195
         try clear p2
         try clear p21
         try clear p214
         try clear p215
         try clear q1
         try clear q19
         try clear q195
         try clear q2
         try clear q21
         try clear q214
         try clear q215
         try clear q26
         obtain ⟨kq, x74_65, rfl, HA, HJ65, zI, zC, zG, HB⟩ := hcut
         cases kq with
         | zero => exact absurd HA.out (by simp [spec_ParseLine.j1])
         | succ kj65 =>
          have H := HA.out
          clear HA
          simp only [spec_ParseLine.j1] at H
          by_cases c69 : x74_65 = true
          ·subst c69
           rw [if_pos rfl] at H
           by_cases c70 : 1 < (t192.length : Int)
           ·rw [if_pos c70] at H
            have c70b0 : decide (1 < (t192.length : Int)) = true := decide_eq_true c70
            have c70b1 : decide (1 < t192.length) = true := decide_eq_true (by omega)
            clear c70
            simp only [Option.some.injEq, Prod.mk.injEq] at H
            obtain ⟨rfl, rfl, rfl, rfl, rfl⟩ := H
            have p216 : 0 ≤ (1 : Int) := (by omega)
            have q216 : 1 < (t192.length : Int) := of_decide_eq_true (by with_reducible assumption)
            obtain ⟨ad216, e216, hx216_0⟩ := Kd.at_string (Kd.R_reads' zI.out).2.2 1 p216 q216
            obtain rfl : ad195 = ad216 := (by injection e216)
            (try simp only [show (1 : Int).toNat = 1 from rfl, Nat.reduceMul, Nat.reduceEqDiff, Go.Addr.add, ↓reduceIte] at hx216_0)
            have qi216 : (1 < t192.length) = True := eq_true (by omega)
            (try rw [show ((1 : Int)).toNat = 1 from rfl] at hx216_0)
            replace p216 := eq_true p216
            replace q216 := eq_true q216
            have zeg := zF.out
            have zfg := zL.out
            have zfd : wc.cell? ⟨zD, 0, none⟩ = some (.int .i64 x192000_41) := (zc zC.out 0).trans rfl
            have zgd : wc.cell? ⟨zD, 1, none⟩ = some (.slice none 0 0) := (zc zC.out 1).trans rfl
            have zhd : wc.cell? ⟨zD, 2, none⟩ = some (.bool x192002_41) := (zc zC.out 2).trans rfl
            have zid : wc.cell? ⟨zD, 3, none⟩ = some (.string x192003_41) := (zc zC.out 3).trans rfl
            have zjd : wc.cell? ⟨zD, 4, none⟩ = some (.slice none 0 0) := (zc zC.out 4).trans rfl
            have zkd := zb zC.out 0
            have zld := zb zC.out 1
            have zmd := zb zC.out 2
            have znd := zb zC.out 3
            have zod := zb zC.out 4
            go_wp2
            refine bodyPost_ret (results_cell_row rfl _ _ zD 66 #[.int .i64 3, .slice none 0 0, .bool false, .string (rdOf ByteArray.empty t192 1), .slice none 0 0] (0, 0) _ rfl (bfin (by (repeat (first | (with_reducible first | refine zf ?_ _ | refine zj ?_ | refine ze ?_ _) | apply zA)); exact zC.out) (by rfl)) Tryd.underlying66 rfl (by kernel_rfl)) rfl ?_
            exact ⟨_, _, by first | rfl | (simp [*] <;> rfl), by first | exact Kd.R_nil _ _ _ _ _ | exact Kd.N_nil _ _ _ _ _ | exact Kd.V_nil _ _ _ _ _ | exact Kd.Q_nil _ _ _ _ _ | exact Kd.S_nil _ _ _ _ _, by first | exact Kd.R_nil _ _ _ _ _ | exact Kd.N_nil _ _ _ _ _ | exact Kd.V_nil _ _ _ _ _ | exact Kd.Q_nil _ _ _ _ _ | exact Kd.S_nil _ _ _ _ _, by repeat (first | (with_reducible first | exact HB.out | apply zh | apply zd | apply zi | refine zl ?_ zK.out | refine zl ?_ zM.out) | exact HB.out)⟩
           ·rw [if_neg c70] at H
            exact absurd H (by simp)
          ·replace c69 := Bool.eq_false_iff.mpr c69
           subst c69
           rw [if_neg (show ¬ (false = true) by decide)] at H
           have HC73 := Aside0.mk H
           clear H
           go_upto_region 28 with (fail)
           go_cut [87] (fun v87 wc => ∃ (kq : Nat) (x87_72 : Bool), v87 = .bool x87_72 ∧ Aside0 (spec_ParseLine.j2 kq t192 x87_72 = some (r1, r2, r3, r4, r5)) ∧ Aside0 (kq ≤ kj65) ∧ Aside0 (Kd.R Kd.string 9 wc w.heap.size (fun _ => True) (.slice (some ad195) t192.length co45) t192) ∧ Aside0 (wc.heap[zD]? = some (.cells #[.int .i64 x192000_41, (.slice none 0 0), .bool x192002_41, .string x192003_41, (.slice none 0 0)] 66 (0, 0))) ∧ Aside0 (wc.heap[zE]? = some (.cells #[.int .i64 t204, .string t205, .string t206, .int .i64 t207, .bool t208] 124 (0, 0))) ∧ Aside0 (Below w.heap.size w wc))
           case first =>
            have H := HC73.out
            clear HC73
            by_cases c74 : (t192.length : Int) = 2
            ·rw [if_pos c74] at H
             have c74b0 : ((t192.length : Int) == 2) = true := beq_iff_eq.mpr c74
             have c74b1 : ((t192.length : Int) != 2) = false := bne_eq_false_iff_eq.mpr c74
             clear c74
             (first | rw [c74b0] | (simp only [zr, zt]; rw [c74b0]) | skip)
             by_cases c75 : 0 < (t192.length : Int)
             ·rw [if_pos c75] at H
              have c75b0 : decide (0 < (t192.length : Int)) = true := decide_eq_true c75
              have c75b1 : decide (0 < t192.length) = true := decide_eq_true (by omega)
              clear c75
              have H' := Aside0.mk H
              clear H
              have p217 : 0 ≤ (0 : Int) := (by omega)
              have q217 : 0 < (t192.length : Int) := of_decide_eq_true (by with_reducible assumption)
              obtain ⟨ad217, e217, hx217_0⟩ := Kd.at_string (Kd.R_reads' zI.out).2.2 0 p217 q217
              obtain rfl : ad195 = ad217 := (by injection e217)
              have qi217 : (0 < t192.length) = True := eq_true (by omega)
              (try rw [show ((0 : Int)).toNat = 0 from rfl] at hx217_0)
              (try rw [Addr.add_zero'] at hx217_0)
              replace p217 := eq_true p217
              replace q217 := eq_true q217
              go_wp2
              go_meet
              case rel => exact ⟨_, (((rdOf ByteArray.empty t192 0).toList == ([108, 105, 115, 116] : List UInt8))), (by first | rfl | (simp [*]; done)), H', ⟨by have := HJ41.out; have := HJ65.out; first | omega | exact Nat.le_refl _⟩, ⟨RL zI.out⟩, ⟨BL zC.out⟩, ⟨BL zG.out⟩, ⟨by repeat (first | (with_reducible first | exact HB.out | apply zh | apply zd | apply zi | refine zl ?_ zK.out | refine zl ?_ zM.out) | exact HB.out)⟩⟩
             ·rw [if_neg c75] at H
              exact absurd H (by simp)
            ·rw [if_neg c74] at H
             have c74b0 : ((t192.length : Int) == 2) = false := beq_eq_false_iff_ne.mpr c74
             have c74b1 : ((t192.length : Int) != 2) = true := bne_iff_ne.mpr c74
             (first | rw [c74b0] | (simp only [zr, zt]; rw [c74b0]) | skip)
             have H' := Aside0.mk H
             clear H
             go_wp2
             go_meet
             case rel => exact ⟨_, (false), (by first | rfl | (simp [*]; done)), H', ⟨by have := HJ41.out; have := HJ65.out; first | omega | exact Nat.le_refl _⟩, ⟨RL zI.out⟩, ⟨BL zC.out⟩, ⟨BL zG.out⟩, ⟨by repeat (first | (with_reducible first | exact HB.out | apply zh | apply zd | apply zi | refine zl ?_ zK.out | refine zl ?_ zM.out) | exact HB.out)⟩⟩
           case rest =>
            clear HC73
            try clear c1
            try clear p1
            try clear q1
            try clear hx1
            try clear qi1
            try clear c2
            try clear c2b0
            try clear c2b1
            try clear p2
            try clear q2
            try clear hx2
            try clear qi2
            try clear c3
            try clear c4
            try clear c5
            try clear c6
            try clear c6b0
            try clear c6b1
            try clear c6b2
            try clear c7
            try clear c11
            try clear c11b0
            try clear c11b1
            try clear c12
            try clear c12b0
            try clear c12b1
            try clear c13
            try clear c13b0
            try clear c13b1
            try clear c15
            try clear c19
            try clear p19
            try clear q19
            try clear hx19
            try clear qi19
            try clear p21
            try clear q21
            try clear hx21
            try clear qi21
            try clear c26
            try clear q26
            try clear c27
            try clear c30
            try clear c36
            try clear c48
            try clear c50
            try clear c50b0
            try clear c50b1
            try clear c51
            try clear c51b0
            try clear c51b1
            try clear c52
            try clear c54
            try clear c54b0
            try clear c54b1
            try clear c55
            try clear c57
            try clear c57b0
            try clear c57b1
            try clear c58
            try clear c60
            try clear c60b0
            try clear c60b1
            try clear c61
            try clear c63
            try clear c63b0
            try clear c63b1
            try clear c64
            try clear c67
            try clear c67b0
            try clear c67b1
            try clear c68
            try clear c68b0
            try clear c68b1
            try clear c69
            try clear c70
            try clear c70b0
            try clear c70b1
            try clear c71
            try clear c74
            try clear c74b0
            try clear c74b1
            try clear c75
            try clear c75b0
            try clear c75b1
            try clear zO
            try clear zP
            try clear zQ
            try clear zR
            try clear zS
            try clear zY
            try clear zZ
            try clear zab
            try clear zbb
            try clear zcb
            try clear zib
            try clear zjb
            try clear zkb
            try clear zlb
            try clear zmb
            try clear zsb
            try clear ztb
            try clear zub
            try clear zvb
            try clear zwb
            try clear zCb
            try clear zDb
            try clear zEb
            try clear zFb
            try clear zGb
            try clear zMb
            try clear zNb
            try clear zOb
            try clear zPb
            try clear zQb
            try clear zVc
            try clear zWc
            try clear zXc
            try clear zYc
            try clear zZc
            try clear zWb
            try clear zXb
            try clear zYb
            try clear zZb
            try clear zac
            try clear zgc
            try clear zhc
            try clear zic
            try clear zjc
            try clear zkc
            try clear zqc
            try clear zrc
            try clear zsc
            try clear ztc
            try clear zuc
            try clear zAc
            try clear zBc
            try clear zCc
            try clear zDc
            try clear zEc
            try clear zKc
            try clear zLc
            try clear zMc
            try clear zNc
            try clear zOc
            try clear zfd
            try clear zgd
            try clear zhd
            try clear zid
            try clear zjd
            try clear zT
            try clear zU
            try clear zV
            try clear zW
            try clear zX
            try clear zdb
            try clear zeb
            try clear zfb
            try clear zgb
            try clear zhb
            try clear znb
            try clear zob
            try clear zpb
            try clear zqb
            try clear zrb
            try clear zxb
            try clear zyb
            try clear zzb
            try clear zAb
            try clear zBb
            try clear zHb
            try clear zIb
            try clear zJb
            try clear zKb
            try clear zLb
            try clear zRb
            try clear zSb
            try clear zTb
            try clear zUb
            try clear zVb
            try clear zad
            try clear zbd
            try clear zcd
            try clear zdd
            try clear zed
            try clear zbc
            try clear zcc
            try clear zdc
            try clear zec
            try clear zfc
            try clear zlc
            try clear zmc
            try clear znc
            try clear zoc
            try clear zpc
            try clear zvc
            try clear zwc
            try clear zxc
            try clear zyc
            try clear zzc
            try clear zFc
            try clear zGc
            try clear zHc
            try clear zIc
            try clear zJc
            try clear zPc
            try clear zQc
            try clear zRc
            try clear zSc
            try clear zTc
            try clear zkd
            try clear zld
            try clear zmd
            try clear znd
            try clear zod
            try clear hx195_0
            try clear hx214_0
            try clear hx215_0
            try clear hx216_0
            try clear hx217_0
            try clear p1
            try clear p19
            try clear p195
            try clear p2
            try clear p21
            try clear p214
            try clear p215
            try clear p216
            try clear p217
            try clear q1
            try clear q19
            try clear q195
            try clear q2
            try clear q21
            try clear q214
            try clear q215
            try clear q216
            try clear q217
            try clear q26
            obtain ⟨kq, x87_72, rfl, HA, HJ72, zI, zC, zG, HB⟩ := hcut
            cases kq with
            | zero => exact absurd HA.out (by simp [spec_ParseLine.j2])
            | succ kj72 =>
             have H := HA.out
             clear HA
             simp only [spec_ParseLine.j2] at H
             by_cases c76 : x87_72 = true
             ·subst c76
              rw [if_pos rfl] at H
              by_cases c77 : 1 < (t192.length : Int)
              ·rw [if_pos c77] at H
               have c77b0 : decide (1 < (t192.length : Int)) = true := decide_eq_true c77
               have c77b1 : decide (1 < t192.length) = true := decide_eq_true (by omega)
               clear c77
               simp only [Option.some.injEq, Prod.mk.injEq] at H
               obtain ⟨rfl, rfl, rfl, rfl, rfl⟩ := H
               have p218 : 0 ≤ (1 : Int) := (by omega)
               have q218 : 1 < (t192.length : Int) := of_decide_eq_true (by with_reducible assumption)
               obtain ⟨ad218, e218, hx218_0⟩ := Kd.at_string (Kd.R_reads' zI.out).2.2 1 p218 q218
               obtain rfl : ad195 = ad218 := (by injection e218)
               (try simp only [show (1 : Int).toNat = 1 from rfl, Nat.reduceMul, Nat.reduceEqDiff, Go.Addr.add, ↓reduceIte] at hx218_0)
               have qi218 : (1 < t192.length) = True := eq_true (by omega)
               (try rw [show ((1 : Int)).toNat = 1 from rfl] at hx218_0)
               replace p218 := eq_true p218
               replace q218 := eq_true q218
               have zgg := zF.out
               have zhg := zL.out
               have zqd : wc.cell? ⟨zD, 0, none⟩ = some (.int .i64 x192000_41) := (zc zC.out 0).trans rfl
               have zrd : wc.cell? ⟨zD, 1, none⟩ = some (.slice none 0 0) := (zc zC.out 1).trans rfl
               have zsd : wc.cell? ⟨zD, 2, none⟩ = some (.bool x192002_41) := (zc zC.out 2).trans rfl
               have ztd : wc.cell? ⟨zD, 3, none⟩ = some (.string x192003_41) := (zc zC.out 3).trans rfl
               have zud : wc.cell? ⟨zD, 4, none⟩ = some (.slice none 0 0) := (zc zC.out 4).trans rfl
               have zvd := zb zC.out 0
               have zwd := zb zC.out 1
               have zxd := zb zC.out 2
               have zyd := zb zC.out 3
               have zzd := zb zC.out 4
               go_wp2
               refine bodyPost_ret (results_cell_row rfl _ _ zD 66 #[.int .i64 4, .slice none 0 0, .bool false, .string (rdOf ByteArray.empty t192 1), .slice none 0 0] (0, 0) _ rfl (bfin (by (repeat (first | (with_reducible first | refine zf ?_ _ | refine zj ?_ | refine ze ?_ _) | apply zA)); exact zC.out) (by rfl)) Tryd.underlying66 rfl (by kernel_rfl)) rfl ?_
               exact ⟨_, _, by first | rfl | (simp [*] <;> rfl), by first | exact Kd.R_nil _ _ _ _ _ | exact Kd.N_nil _ _ _ _ _ | exact Kd.V_nil _ _ _ _ _ | exact Kd.Q_nil _ _ _ _ _ | exact Kd.S_nil _ _ _ _ _, by first | exact Kd.R_nil _ _ _ _ _ | exact Kd.N_nil _ _ _ _ _ | exact Kd.V_nil _ _ _ _ _ | exact Kd.Q_nil _ _ _ _ _ | exact Kd.S_nil _ _ _ _ _, by repeat (first | (with_reducible first | exact HB.out | apply zh | apply zd | apply zi | refine zl ?_ zK.out | refine zl ?_ zM.out) | exact HB.out)⟩
              ·rw [if_neg c77] at H
               exact absurd H (by simp)
             ·replace c76 := Bool.eq_false_iff.mpr c76
              subst c76
              rw [if_neg (show ¬ (false = true) by decide)] at H
              by_cases c80 : 1 ≤ (t192.length : Int)
              ·rw [if_pos c80] at H
               have c80b0 := eq_true c80
               have c80b1 : decide (1 ≤ (t192.length : Int)) = true := decide_eq_true c80
               clear c80
               obtain ⟨y219, hy219⟩ : ∃ y_ : List ByteArray, y_ = (t192.drop 1) := ⟨_, rfl⟩
               replace H : ((spec_l6Nums.f kj72 y219).bind fun bt223 => (if bt223.2 = true then (if 0 < (t192.length : Int) then (if (rdOf ByteArray.empty t192 0).toList = ([115, 116, 101, 112] : List UInt8) then (if (bt223.1.length : Int) = 1 then (if 0 < (bt223.1.length : Int) then ((spec_l6Between.f (rd bt223.1 0) 1 1000).bind fun t229 => (spec_ParseLine.j3 kj72 t192 bt223.1 t229)) else (none)) else (spec_ParseLine.j3 kj72 t192 bt223.1 false)) else (spec_ParseLine.j3 kj72 t192 bt223.1 false)) else (none)) else (some (0, ([] : List (S124)), false, (⟨#[]⟩ : ByteArray), ([] : List Int))))) = some (r1, r2, r3, r4, r5) := by first | (rw [hy219]; with_reducible exact H) | (have H2_ := (Option.bind_some _ _).symm.trans H; rw [hy219]; with_reducible exact H2_) | (have H2_ := (Option.bind_some _ _).symm.trans H; with_reducible exact H2_) | with_reducible exact H | (rw [hy219]; exact H) | exact H
               have Ny219 := Aside0.mk hy219
               clear hy219
               replace H := Option.bind_eq_some_iff.mp H
               obtain ⟨⟨t223, t224⟩, A810, H⟩ := H
               try dsimp only at H
               have A81 := Aside0.mk A810
               clear A810
               by_cases c82 : t224 = true
               ·subst c82
                rw [if_pos rfl] at H
                have HC83 := Aside0.mk H
                clear H
                have q84 : (1 : Int) ≤ ((t192.length : Int) : Int) := of_decide_eq_true (by with_reducible assumption)
                obtain ⟨i084, hi084, _, hsz84, _⟩ := info_parts info9
                have hroom84 : t192.length ≤ co45 := (Kd.R_reads' zI.out).2.1
                have hC84 : Kd.C Kd.string _ (some ad195) t192.length t192 := (Kd.R_reads' zI.out).2.2
                have hcut84 := cut_from (P := Tryd.prog) 119 9 .i64 Tryd.underlying119 hi084 1 hsz84 (some ad195) t192.length co45 1 (by omega) q84
                have hr84 := Kd.C_drop (m := (1 : Int).toNat) (c := co45) hC84 (by omega) hroom84
                obtain ⟨A84, hA84⟩ : ∃ A1, A1 = (if co45 = (1 : Int).toNat then (some ad195) else ((some ad195) : Option Addr).map (·.add ((1 : Int).toNat * 1))) := ⟨_, rfl⟩
                obtain ⟨c84, hc84⟩ : ∃ c1, c1 = co45 - (1 : Int).toNat := ⟨_, rfl⟩
                have hy84 : y219.length = t192.length - (1 : Int).toNat := (by rw [Ny219.out, List.length_drop] <;> omega)
                rw [show (t192).drop (1 : Int).toNat = y219 from Ny219.out.symm] at hr84
                replace hr84 : Kd.C Kd.string _ A84 y219.length y219 := (by rw [hA84]; exact hr84)
                rw [← hy84, ← hA84, ← hc84] at hcut84
                have HR222 := Aside0.mk hr84
                have HC222 := Aside0.mk (show y219.length ≤ c84 from by rw [hy84, hc84]; exact Nat.sub_le_sub_right hroom84 _)
                clear hr84 hC84 hroom84 hi084 hsz84 hc84
                have KY84 := Aside0.mk hy84
                have KA84 := Aside0.mk hA84
                clear hy84 hA84
                have KL84 := Aside0.mk (show 1 ≤ t192.length from by omega)
                replace q84 := eq_true q84
                go_upto_region 33 with (first | ((with_reducible refine zo (f := 75) rfl ?_); refine zy (some 95) rfl rfl Tryd.func75 (by kernel_rfl) rfl #[.slice A84 y219.length c84] rfl (by (try simp only [List.map_toArray, List.map_cons, List.map_nil]); first | done | rfl) ?_; (with_reducible refine (spec_l6Nums.calls kj72 _ _ y219 t223 true _ ?side1 ?side2 A81.out).mono ?_); (case side1 => repeat (first | exact (by repeat (first | (with_reducible exact HR222.out) | (with_reducible refine Kd.C_alloc ?_ _) | (with_reducible refine Kd.C_drewN ?_ _) | (with_reducible refine Kd.C_drew ?_) | exact HR222.out)) | (with_reducible refine Kd.C_alloc ?_ _) | (with_reducible refine Kd.C_drewN ?_ _) | (with_reducible refine Kd.C_drew ?_))); (case side2 => exact HC222.out); rintro e w85 ⟨v225, rfl, zN, hb⟩; refine ⟨_, rfl, ?_⟩; have n0_ := Aside0.mk (Kd.R_below (RL zI.out) hb); have n1_ := Aside0.mk (Kd.R_lower zN (zn (by exact bl HB.out))); have n2_ := Aside0.mk (zp (g := zD) (o := .cells #[.int .i64 x192000_41, .slice none 0 0, .bool x192002_41, .string x192003_41, .slice none 0 0] 66 (0, 0)) (BL zC.out) hb); have n3_ := Aside0.mk (zp (g := zE) (o := .cells #[.int .i64 t204, .string t205, .string t206, .int .i64 t207, .bool t208] 124 (0, 0)) (BL zG.out) hb); have n4_ := Aside0.mk (Kd.C_below (by repeat (first | (with_reducible exact HR222.out) | (with_reducible refine Kd.C_alloc ?_ _) | (with_reducible refine Kd.C_drewN ?_ _) | (with_reducible refine Kd.C_drew ?_) | exact HR222.out)) hb); have n5_ := Aside0.mk (zm (by exact bl HB.out) hb); clear zI; clear zC; clear zG; clear HR222; clear HB; have zI := n0_; have zUc := n1_; have zC := n2_; have zG := n3_; have HR222 := n4_; have HB := n5_; clear n0_ n1_ n2_ n3_ n4_ n5_; (try clear hb); (try clear hb2); (try clear hk); (try clear hi); (try clear zN)))
                (try simp only [Act.put, List.setIfInBounds_toArray, List.set_cons_zero, List.set_cons_succ])
                go_cut [115] (fun v115 wc => ∃ (kq : Nat) (x115_82 : Bool), v115 = .bool x115_82 ∧ Aside0 (spec_ParseLine.j3 kq t192 t223 x115_82 = some (r1, r2, r3, r4, r5)) ∧ Aside0 (kq ≤ kj72) ∧ Aside0 (Kd.R Kd.string 9 wc w.heap.size (fun _ => True) (.slice (some ad195) t192.length co45) t192) ∧ Aside0 (Kd.R (Kd.int .i64) 2 wc w.heap.size (fun _ => True) v225 t223) ∧ Aside0 (wc.heap[zD]? = some (.cells #[.int .i64 x192000_41, (.slice none 0 0), .bool x192002_41, .string x192003_41, (.slice none 0 0)] 66 (0, 0))) ∧ Aside0 (wc.heap[zE]? = some (.cells #[.int .i64 t204, .string t205, .string t206, .int .i64 t207, .bool t208] 124 (0, 0))) ∧ Aside0 (Kd.C Kd.string wc A84 y219.length y219) ∧ Aside0 (Below w.heap.size w wc))
                case first =>
                 have H := HC83.out
                 clear HC83
                 by_cases c86 : 0 < (t192.length : Int)
                 ·rw [if_pos c86] at H
                  have c86b0 : decide (0 < (t192.length : Int)) = true := decide_eq_true c86
                  have c86b1 : decide (0 < t192.length) = true := decide_eq_true (by omega)
                  clear c86
                  (first | rw [c86b0] | (simp only [zr, zt]; rw [c86b0]) | skip)
                  by_cases c87 : (rdOf ByteArray.empty t192 0).toList = ([115, 116, 101, 112] : List UInt8)
                  ·rw [if_pos c87] at H
                   have c87b0 : ((rdOf ByteArray.empty t192 0).toList == ([115, 116, 101, 112] : List UInt8)) = true := beq_iff_eq.mpr c87
                   have c87b1 : ((rdOf ByteArray.empty t192 0).toList != ([115, 116, 101, 112] : List UInt8)) = false := bne_eq_false_iff_eq.mpr c87
                   clear c87
                   by_cases c88 : (t223.length : Int) = 1
                   ·rw [if_pos c88] at H
                    have c88b0 : ((t223.length : Int) == 1) = true := beq_iff_eq.mpr c88
                    have c88b1 : ((t223.length : Int) != 1) = false := bne_eq_false_iff_eq.mpr c88
                    clear c88
                    by_cases c89 : 0 < (t223.length : Int)
                    ·rw [if_pos c89] at H
                     have c89b0 : decide (0 < (t223.length : Int)) = true := decide_eq_true c89
                     have c89b1 : decide (0 < t223.length) = true := decide_eq_true (by omega)
                     clear c89
                     replace H := Option.bind_eq_some_iff.mp H
                     obtain ⟨t229, A900, H⟩ := H
                     try dsimp only at H
                     have A90 := Aside0.mk A900
                     clear A900
                     have H' := Aside0.mk H
                     clear H
                     have p227 : 0 ≤ (0 : Int) := (by omega)
                     have q227 : 0 < (t192.length : Int) := of_decide_eq_true (by with_reducible assumption)
                     obtain ⟨ad227, e227, hx227_0⟩ := Kd.at_string (Kd.R_reads' zI.out).2.2 0 p227 q227
                     obtain rfl : ad195 = ad227 := (by injection e227)
                     have qi227 : (0 < t192.length) = True := eq_true (by omega)
                     (try rw [show ((0 : Int)).toNat = 0 from rfl] at hx227_0)
                     (try rw [Addr.add_zero'] at hx227_0)
                     replace p227 := eq_true p227
                     replace q227 := eq_true q227
                     obtain ⟨Ao91, co91, eo91⟩ := Kd.R_slice zUc.out
                     subst eo91
                     have p228 : 0 ≤ (0 : Int) := (by omega)
                     have q228 : 0 < (t223.length : Int) := of_decide_eq_true (by with_reducible assumption)
                     obtain ⟨ad228, e228, hx228_0⟩ := Kd.at_int (Kd.R_reads' zUc.out).2.2 0 p228 q228
                     cases e228
                     have qi228 : (0 < t223.length) = True := eq_true (by omega)
                     (try rw [show ((0 : Int)).toNat = 0 from rfl] at hx228_0)
                     (try rw [Addr.add_zero'] at hx228_0)
                     replace p228 := eq_true p228
                     replace q228 := eq_true q228
                     go_wp2_with (first | (go_at_call 76; (with_reducible refine (spec_l6Between.calls (rd t223 0) 1 1000 t229 _ A90.out).mono ?_); rintro e w' ⟨rfl, ⟨nd, rfl⟩⟩))
                     go_meet
                     case rel => exact ⟨_, (t229), (by first | rfl | (simp [*]; done)), H', ⟨by have := HJ41.out; have := HJ65.out; have := HJ72.out; first | omega | exact Nat.le_refl _⟩, ⟨RL zI.out⟩, ⟨RL zUc.out⟩, ⟨BL zC.out⟩, ⟨BL zG.out⟩, ⟨by repeat (first | (with_reducible exact HR222.out) | (with_reducible refine Kd.C_alloc ?_ _) | (with_reducible refine Kd.C_drewN ?_ _) | (with_reducible refine Kd.C_drew ?_) | exact HR222.out)⟩, ⟨by repeat (first | (with_reducible first | exact HB.out | apply zh | apply zd | apply zi | refine zl ?_ zK.out | refine zl ?_ zM.out) | exact HB.out)⟩⟩
                    ·rw [if_neg c89] at H
                     exact absurd H (by simp)
                   ·rw [if_neg c88] at H
                    have c88b0 : ((t223.length : Int) == 1) = false := beq_eq_false_iff_ne.mpr c88
                    have c88b1 : ((t223.length : Int) != 1) = true := bne_iff_ne.mpr c88
                    have H' := Aside0.mk H
                    clear H
                    have p227 : 0 ≤ (0 : Int) := (by omega)
                    have q227 : 0 < (t192.length : Int) := of_decide_eq_true (by with_reducible assumption)
                    obtain ⟨ad227, e227, hx227_0⟩ := Kd.at_string (Kd.R_reads' zI.out).2.2 0 p227 q227
                    obtain rfl : ad195 = ad227 := (by injection e227)
                    have qi227 : (0 < t192.length) = True := eq_true (by omega)
                    (try rw [show ((0 : Int)).toNat = 0 from rfl] at hx227_0)
                    (try rw [Addr.add_zero'] at hx227_0)
                    replace p227 := eq_true p227
                    replace q227 := eq_true q227
                    obtain ⟨Ao92, co92, eo92⟩ := Kd.R_slice zUc.out
                    subst eo92
                    go_wp2
                    go_meet
                    case rel => exact ⟨_, (false), (by first | rfl | (simp [*]; done)), H', ⟨by have := HJ41.out; have := HJ65.out; have := HJ72.out; first | omega | exact Nat.le_refl _⟩, ⟨RL zI.out⟩, ⟨RL zUc.out⟩, ⟨BL zC.out⟩, ⟨BL zG.out⟩, ⟨by repeat (first | (with_reducible exact HR222.out) | (with_reducible refine Kd.C_alloc ?_ _) | (with_reducible refine Kd.C_drewN ?_ _) | (with_reducible refine Kd.C_drew ?_) | exact HR222.out)⟩, ⟨by repeat (first | (with_reducible first | exact HB.out | apply zh | apply zd | apply zi | refine zl ?_ zK.out | refine zl ?_ zM.out) | exact HB.out)⟩⟩
                  ·rw [if_neg c87] at H
                   have c87b0 : ((rdOf ByteArray.empty t192 0).toList == ([115, 116, 101, 112] : List UInt8)) = false := beq_eq_false_iff_ne.mpr c87
                   have c87b1 : ((rdOf ByteArray.empty t192 0).toList != ([115, 116, 101, 112] : List UInt8)) = true := bne_iff_ne.mpr c87
                   have H' := Aside0.mk H
                   clear H
                   have p227 : 0 ≤ (0 : Int) := (by omega)
                   have q227 : 0 < (t192.length : Int) := of_decide_eq_true (by with_reducible assumption)
                   obtain ⟨ad227, e227, hx227_0⟩ := Kd.at_string (Kd.R_reads' zI.out).2.2 0 p227 q227
                   obtain rfl : ad195 = ad227 := (by injection e227)
                   have qi227 : (0 < t192.length) = True := eq_true (by omega)
                   (try rw [show ((0 : Int)).toNat = 0 from rfl] at hx227_0)
                   (try rw [Addr.add_zero'] at hx227_0)
                   replace p227 := eq_true p227
                   replace q227 := eq_true q227
                   go_wp2
                   go_meet
                   case rel => exact ⟨_, (false), (by first | rfl | (simp [*]; done)), H', ⟨by have := HJ41.out; have := HJ65.out; have := HJ72.out; first | omega | exact Nat.le_refl _⟩, ⟨RL zI.out⟩, ⟨RL zUc.out⟩, ⟨BL zC.out⟩, ⟨BL zG.out⟩, ⟨by repeat (first | (with_reducible exact HR222.out) | (with_reducible refine Kd.C_alloc ?_ _) | (with_reducible refine Kd.C_drewN ?_ _) | (with_reducible refine Kd.C_drew ?_) | exact HR222.out)⟩, ⟨by repeat (first | (with_reducible first | exact HB.out | apply zh | apply zd | apply zi | refine zl ?_ zK.out | refine zl ?_ zM.out) | exact HB.out)⟩⟩
                 ·rw [if_neg c86] at H
                  exact absurd H (by simp)
                case rest =>
                 clear HC83
                 try clear c1
                 try clear p1
                 try clear q1
                 try clear hx1
                 try clear qi1
                 try clear c2
                 try clear c2b0
                 try clear c2b1
                 try clear p2
                 try clear q2
                 try clear hx2
                 try clear qi2
                 try clear c3
                 try clear c4
                 try clear c5
                 try clear c6
                 try clear c6b0
                 try clear c6b1
                 try clear c6b2
                 try clear c7
                 try clear c8
                 try clear q8
                 try clear c11
                 try clear c11b0
                 try clear c11b1
                 try clear c12
                 try clear c12b0
                 try clear c12b1
                 try clear c13
                 try clear c13b0
                 try clear c13b1
                 try clear c15
                 try clear c19
                 try clear p19
                 try clear q19
                 try clear hx19
                 try clear qi19
                 try clear p21
                 try clear q21
                 try clear hx21
                 try clear qi21
                 try clear p22
                 try clear q22
                 try clear hx22
                 try clear qi22
                 try clear c26
                 try clear q26
                 try clear c27
                 try clear c30
                 try clear c36
                 try clear c48
                 try clear c50
                 try clear c50b0
                 try clear c50b1
                 try clear c51
                 try clear c51b0
                 try clear c51b1
                 try clear c52
                 try clear c54
                 try clear c54b0
                 try clear c54b1
                 try clear c55
                 try clear c57
                 try clear c57b0
                 try clear c57b1
                 try clear c58
                 try clear c60
                 try clear c60b0
                 try clear c60b1
                 try clear c61
                 try clear c63
                 try clear c63b0
                 try clear c63b1
                 try clear c64
                 try clear c67
                 try clear c67b0
                 try clear c67b1
                 try clear c68
                 try clear c68b0
                 try clear c68b1
                 try clear c69
                 try clear c70
                 try clear c70b0
                 try clear c70b1
                 try clear c71
                 try clear c74
                 try clear c74b0
                 try clear c74b1
                 try clear c75
                 try clear c75b0
                 try clear c75b1
                 try clear c76
                 try clear c77
                 try clear c77b0
                 try clear c77b1
                 try clear c78
                 try clear c80
                 try clear c80b0
                 try clear c80b1
                 try clear c82
                 try clear c84
                 try clear q84
                 try clear c86
                 try clear c86b0
                 try clear c86b1
                 try clear c87
                 try clear c87b0
                 try clear c87b1
                 try clear c88
                 try clear c88b0
                 try clear c88b1
                 try clear c89
                 try clear c89b0
                 try clear c89b1
                 try clear zO
                 try clear zP
                 try clear zQ
                 try clear zR
                 try clear zS
                 try clear zY
                 try clear zZ
                 try clear zab
                 try clear zbb
                 try clear zcb
                 try clear zib
                 try clear zjb
                 try clear zkb
                 try clear zlb
                 try clear zmb
                 try clear zsb
                 try clear ztb
                 try clear zub
                 try clear zvb
                 try clear zwb
                 try clear zCb
                 try clear zDb
                 try clear zEb
                 try clear zFb
                 try clear zGb
                 try clear zMb
                 try clear zNb
                 try clear zOb
                 try clear zPb
                 try clear zQb
                 try clear zVc
                 try clear zWc
                 try clear zXc
                 try clear zYc
                 try clear zZc
                 try clear zWb
                 try clear zXb
                 try clear zYb
                 try clear zZb
                 try clear zac
                 try clear zgc
                 try clear zhc
                 try clear zic
                 try clear zjc
                 try clear zkc
                 try clear zqc
                 try clear zrc
                 try clear zsc
                 try clear ztc
                 try clear zuc
                 try clear zAc
                 try clear zBc
                 try clear zCc
                 try clear zDc
                 try clear zEc
                 try clear zKc
                 try clear zLc
                 try clear zMc
                 try clear zNc
                 try clear zOc
                 try clear zfd
                 try clear zgd
                 try clear zhd
                 try clear zid
                 try clear zjd
                 try clear zqd
                 try clear zrd
                 try clear zsd
                 try clear ztd
                 try clear zud
                 try clear zT
                 try clear zU
                 try clear zV
                 try clear zW
                 try clear zX
                 try clear zdb
                 try clear zeb
                 try clear zfb
                 try clear zgb
                 try clear zhb
                 try clear znb
                 try clear zob
                 try clear zpb
                 try clear zqb
                 try clear zrb
                 try clear zxb
                 try clear zyb
                 try clear zzb
                 try clear zAb
                 try clear zBb
                 try clear zHb
                 try clear zIb
                 try clear zJb
                 try clear zKb
                 try clear zLb
                 try clear zRb
                 try clear zSb
                 try clear zTb
                 try clear zUb
                 try clear zVb
                 try clear zad
                 try clear zbd
                 try clear zcd
                 try clear zdd
                 try clear zed
                 try clear zbc
                 try clear zcc
                 try clear zdc
                 try clear zec
                 try clear zfc
                 try clear zlc
                 try clear zmc
                 try clear znc
                 try clear zoc
                 try clear zpc
                 try clear zvc
                 try clear zwc
                 try clear zxc
                 try clear zyc
                 try clear zzc
                 try clear zFc
                 try clear zGc
                 try clear zHc
                 try clear zIc
                 try clear zJc
                 try clear zPc
                 try clear zQc
                 try clear zRc
                 try clear zSc
                 try clear zTc
                 try clear zkd
                 try clear zld
                 try clear zmd
                 try clear znd
                 try clear zod
                 try clear zvd
                 try clear zwd
                 try clear zxd
                 try clear zyd
                 try clear zzd
                 try clear hx195_0
                 try clear hx214_0
                 try clear hx215_0
                 try clear hx216_0
                 try clear hx217_0
                 try clear hx218_0
                 try clear hx227_0
                 try clear hx228_0
                 try clear p1
                 try clear p19
                 try clear p195
                 try clear p2
                 try clear p21
                 try clear p214
                 try clear p215
                 try clear p216
                 try clear p217
                 try clear p218
                 try clear p227
                 try clear p228
                 try clear q1
                 try clear q19
                 try clear q195
                 try clear q2
                 try clear q21
                 try clear q214
                 try clear q215
                 try clear q216
                 try clear q217
                 try clear q218
                 try clear q227
                 try clear q228
                 try clear q26
                 try clear q84
                 obtain ⟨kq, x115_82, rfl, HA, HJ82, zI, zJ, zC, zG, HR222, HB⟩ := hcut
                 cases kq with
                 | zero => exact absurd HA.out (by simp [spec_ParseLine.j3])
                 | succ kj82 =>
                  have H := HA.out
                  clear HA
                  simp only [spec_ParseLine.j3] at H
                  by_cases c93 : x115_82 = true
                  ·subst c93
                   rw [if_pos rfl] at H
                   simp only [Option.some.injEq, Prod.mk.injEq] at H
                   obtain ⟨rfl, rfl, rfl, rfl, rfl⟩ := H
                   obtain ⟨Ao94, co94, eo94⟩ := Kd.R_slice zJ.out
                   subst eo94
                   have zig := zF.out
                   have zjg := zL.out
                   have zCd : wc.cell? ⟨zD, 0, none⟩ = some (.int .i64 x192000_41) := (zc zC.out 0).trans rfl
                   have zDd : wc.cell? ⟨zD, 1, none⟩ = some (.slice none 0 0) := (zc zC.out 1).trans rfl
                   have zEd : wc.cell? ⟨zD, 2, none⟩ = some (.bool x192002_41) := (zc zC.out 2).trans rfl
                   have zFd : wc.cell? ⟨zD, 3, none⟩ = some (.string x192003_41) := (zc zC.out 3).trans rfl
                   have zGd : wc.cell? ⟨zD, 4, none⟩ = some (.slice none 0 0) := (zc zC.out 4).trans rfl
                   have zHd := zb zC.out 0
                   have zId := zb zC.out 1
                   have zJd := zb zC.out 2
                   have zKd := zb zC.out 3
                   have zLd := zb zC.out 4
                   go_wp2
                   refine bodyPost_ret (results_cell_row rfl _ _ zD 66 #[.int .i64 7, .slice none 0 0, .bool false, .string (⟨#[]⟩ : ByteArray), .slice Ao94 t223.length co94] (0, 0) _ rfl (bfin (by (repeat (first | (with_reducible first | refine zf ?_ _ | refine zj ?_ | refine ze ?_ _) | apply zA)); exact zC.out) (by rfl)) Tryd.underlying66 rfl (by kernel_rfl)) rfl ?_
                   exact ⟨_, _, by first | rfl | (simp [*] <;> rfl), by first | exact Kd.R_nil _ _ _ _ _ | exact Kd.N_nil _ _ _ _ _ | exact Kd.V_nil _ _ _ _ _ | exact Kd.Q_nil _ _ _ _ _ | exact Kd.S_nil _ _ _ _ _, RL (Kd.R_mono (Kd.R_far (p := ⟨zD, 4, none⟩) (Kd.R_far (p := ⟨zD, 3, none⟩) (Kd.R_far (p := ⟨zD, 2, none⟩) (Kd.R_far (p := ⟨zD, 1, none⟩) (Kd.R_far (p := ⟨zD, 0, none⟩) (Kd.R_types zJ.out zC.out (by decide)) (fun _ hk => hk.2) (.int .i64 7)) (fun _ hk => hk.2) (.slice none 0 0)) (fun _ hk => hk.2) (.bool false)) (fun _ hk => hk.2) (.string (⟨#[]⟩ : ByteArray))) (fun _ hk => hk.2) (.slice Ao94 t223.length co94)) (fun _ hk => trivial)), by repeat (first | (with_reducible first | exact HB.out | apply zh | apply zd | apply zi | refine zl ?_ zK.out | refine zl ?_ zM.out) | exact HB.out)⟩
                  ·replace c93 := Bool.eq_false_iff.mpr c93
                   subst c93
                   rw [if_neg (show ¬ (false = true) by decide)] at H
                   have HC97 := Aside0.mk H
                   clear H
                   go_upto_region 35 with (fail)
                   go_cut [132] (fun v132 wc => ∃ (kq : Nat) (x132_96 : Bool), v132 = .bool x132_96 ∧ Aside0 (spec_ParseLine.j4 kq t192 t223 x132_96 = some (r1, r2, r3, r4, r5)) ∧ Aside0 (kq ≤ kj82) ∧ Aside0 (Kd.R Kd.string 9 wc w.heap.size (fun _ => True) (.slice (some ad195) t192.length co45) t192) ∧ Aside0 (Kd.R (Kd.int .i64) 2 wc w.heap.size (fun _ => True) v225 t223) ∧ Aside0 (wc.heap[zD]? = some (.cells #[.int .i64 x192000_41, (.slice none 0 0), .bool x192002_41, .string x192003_41, (.slice none 0 0)] 66 (0, 0))) ∧ Aside0 (wc.heap[zE]? = some (.cells #[.int .i64 t204, .string t205, .string t206, .int .i64 t207, .bool t208] 124 (0, 0))) ∧ Aside0 (Kd.C Kd.string wc A84 y219.length y219) ∧ Aside0 (Below w.heap.size w wc))
                   case first =>
                    have H := HC97.out
                    clear HC97
                    by_cases c98 : 0 < (t192.length : Int)
                    ·rw [if_pos c98] at H
                     have c98b0 : decide (0 < (t192.length : Int)) = true := decide_eq_true c98
                     have c98b1 : decide (0 < t192.length) = true := decide_eq_true (by omega)
                     clear c98
                     (first | rw [c98b0] | (simp only [zr, zt]; rw [c98b0]) | skip)
                     by_cases c99 : (rdOf ByteArray.empty t192 0).toList = ([97, 114, 109] : List UInt8)
                     ·rw [if_pos c99] at H
                      have c99b0 : ((rdOf ByteArray.empty t192 0).toList == ([97, 114, 109] : List UInt8)) = true := beq_iff_eq.mpr c99
                      have c99b1 : ((rdOf ByteArray.empty t192 0).toList != ([97, 114, 109] : List UInt8)) = false := bne_eq_false_iff_eq.mpr c99
                      clear c99
                      by_cases c100 : (t223.length : Int) ≥ 1
                      ·rw [if_pos c100] at H
                       have c100b0 : decide (1 ≤ (t223.length : Int)) = true := decide_eq_true c100
                       have c100b1 : decide (1 ≤ t223.length) = true := decide_eq_true (by omega)
                       clear c100
                       by_cases c101 : 0 < (t223.length : Int)
                       ·rw [if_pos c101] at H
                        have c101b0 : decide (0 < (t223.length : Int)) = true := decide_eq_true c101
                        have c101b1 : decide (0 < t223.length) = true := decide_eq_true (by omega)
                        clear c101
                        replace H := Option.bind_eq_some_iff.mp H
                        obtain ⟨t232, A1020, H⟩ := H
                        try dsimp only at H
                        have A102 := Aside0.mk A1020
                        clear A1020
                        have H' := Aside0.mk H
                        clear H
                        have p230 : 0 ≤ (0 : Int) := (by omega)
                        have q230 : 0 < (t192.length : Int) := of_decide_eq_true (by with_reducible assumption)
                        obtain ⟨ad230, e230, hx230_0⟩ := Kd.at_string (Kd.R_reads' zI.out).2.2 0 p230 q230
                        obtain rfl : ad195 = ad230 := (by injection e230)
                        have qi230 : (0 < t192.length) = True := eq_true (by omega)
                        (try rw [show ((0 : Int)).toNat = 0 from rfl] at hx230_0)
                        (try rw [Addr.add_zero'] at hx230_0)
                        replace p230 := eq_true p230
                        replace q230 := eq_true q230
                        obtain ⟨Ao103, co103, eo103⟩ := Kd.R_slice zJ.out
                        subst eo103
                        have p231 : 0 ≤ (0 : Int) := (by omega)
                        have q231 : 0 < (t223.length : Int) := of_decide_eq_true (by with_reducible assumption)
                        obtain ⟨ad231, e231, hx231_0⟩ := Kd.at_int (Kd.R_reads' zJ.out).2.2 0 p231 q231
                        cases e231
                        have qi231 : (0 < t223.length) = True := eq_true (by omega)
                        (try rw [show ((0 : Int)).toNat = 0 from rfl] at hx231_0)
                        (try rw [Addr.add_zero'] at hx231_0)
                        replace p231 := eq_true p231
                        replace q231 := eq_true q231
                        go_wp2_with (first | (go_at_call 76; (with_reducible refine (spec_l6Between.calls (rd t223 0) 1 10000 t232 _ A102.out).mono ?_); rintro e w' ⟨rfl, ⟨nd, rfl⟩⟩))
                        go_meet
                        case rel => exact ⟨_, (t232), (by first | rfl | (simp [*]; done)), H', ⟨by have := HJ41.out; have := HJ65.out; have := HJ72.out; have := HJ82.out; first | omega | exact Nat.le_refl _⟩, ⟨RL zI.out⟩, ⟨RL zJ.out⟩, ⟨BL zC.out⟩, ⟨BL zG.out⟩, ⟨by repeat (first | (with_reducible exact HR222.out) | (with_reducible refine Kd.C_alloc ?_ _) | (with_reducible refine Kd.C_drewN ?_ _) | (with_reducible refine Kd.C_drew ?_) | exact HR222.out)⟩, ⟨by repeat (first | (with_reducible first | exact HB.out | apply zh | apply zd | apply zi | refine zl ?_ zK.out | refine zl ?_ zM.out) | exact HB.out)⟩⟩
                       ·rw [if_neg c101] at H
                        exact absurd H (by simp)
                      ·rw [if_neg c100] at H
                       have c100b0 : decide (1 ≤ (t223.length : Int)) = false := decide_eq_false c100
                       have c100b1 : decide (1 ≤ t223.length) = false := decide_eq_false (by omega)
                       clear c100
                       have H' := Aside0.mk H
                       clear H
                       have p230 : 0 ≤ (0 : Int) := (by omega)
                       have q230 : 0 < (t192.length : Int) := of_decide_eq_true (by with_reducible assumption)
                       obtain ⟨ad230, e230, hx230_0⟩ := Kd.at_string (Kd.R_reads' zI.out).2.2 0 p230 q230
                       obtain rfl : ad195 = ad230 := (by injection e230)
                       have qi230 : (0 < t192.length) = True := eq_true (by omega)
                       (try rw [show ((0 : Int)).toNat = 0 from rfl] at hx230_0)
                       (try rw [Addr.add_zero'] at hx230_0)
                       replace p230 := eq_true p230
                       replace q230 := eq_true q230
                       obtain ⟨Ao104, co104, eo104⟩ := Kd.R_slice zJ.out
                       subst eo104
                       go_wp2
                       go_meet
                       case rel => exact ⟨_, (false), (by first | rfl | (simp [*]; done)), H', ⟨by have := HJ41.out; have := HJ65.out; have := HJ72.out; have := HJ82.out; first | omega | exact Nat.le_refl _⟩, ⟨RL zI.out⟩, ⟨RL zJ.out⟩, ⟨BL zC.out⟩, ⟨BL zG.out⟩, ⟨by repeat (first | (with_reducible exact HR222.out) | (with_reducible refine Kd.C_alloc ?_ _) | (with_reducible refine Kd.C_drewN ?_ _) | (with_reducible refine Kd.C_drew ?_) | exact HR222.out)⟩, ⟨by repeat (first | (with_reducible first | exact HB.out | apply zh | apply zd | apply zi | refine zl ?_ zK.out | refine zl ?_ zM.out) | exact HB.out)⟩⟩
                     ·rw [if_neg c99] at H
                      have c99b0 : ((rdOf ByteArray.empty t192 0).toList == ([97, 114, 109] : List UInt8)) = false := beq_eq_false_iff_ne.mpr c99
                      have c99b1 : ((rdOf ByteArray.empty t192 0).toList != ([97, 114, 109] : List UInt8)) = true := bne_iff_ne.mpr c99
                      have H' := Aside0.mk H
                      clear H
                      have p230 : 0 ≤ (0 : Int) := (by omega)
                      have q230 : 0 < (t192.length : Int) := of_decide_eq_true (by with_reducible assumption)
                      obtain ⟨ad230, e230, hx230_0⟩ := Kd.at_string (Kd.R_reads' zI.out).2.2 0 p230 q230
                      obtain rfl : ad195 = ad230 := (by injection e230)
                      have qi230 : (0 < t192.length) = True := eq_true (by omega)
                      (try rw [show ((0 : Int)).toNat = 0 from rfl] at hx230_0)
                      (try rw [Addr.add_zero'] at hx230_0)
                      replace p230 := eq_true p230
                      replace q230 := eq_true q230
                      go_wp2
                      go_meet
                      case rel => exact ⟨_, (false), (by first | rfl | (simp [*]; done)), H', ⟨by have := HJ41.out; have := HJ65.out; have := HJ72.out; have := HJ82.out; first | omega | exact Nat.le_refl _⟩, ⟨RL zI.out⟩, ⟨RL zJ.out⟩, ⟨BL zC.out⟩, ⟨BL zG.out⟩, ⟨by repeat (first | (with_reducible exact HR222.out) | (with_reducible refine Kd.C_alloc ?_ _) | (with_reducible refine Kd.C_drewN ?_ _) | (with_reducible refine Kd.C_drew ?_) | exact HR222.out)⟩, ⟨by repeat (first | (with_reducible first | exact HB.out | apply zh | apply zd | apply zi | refine zl ?_ zK.out | refine zl ?_ zM.out) | exact HB.out)⟩⟩
                    ·rw [if_neg c98] at H
                     exact absurd H (by simp)
                   case rest =>
                    clear HC97
                    try clear c1
                    try clear p1
                    try clear q1
                    try clear hx1
                    try clear qi1
                    try clear c2
                    try clear c2b0
                    try clear c2b1
                    try clear p2
                    try clear q2
                    try clear hx2
                    try clear qi2
                    try clear c3
                    try clear c4
                    try clear c5
                    try clear c6
                    try clear c6b0
                    try clear c6b1
                    try clear c6b2
                    try clear c7
                    try clear c8
                    try clear q8
                    try clear c9
                    try clear c10
                    try clear c11
                    try clear c11b0
                    try clear c11b1
                    try clear c12
                    try clear c12b0
                    try clear c12b1
                    try clear c13
                    try clear c13b0
                    try clear c13b1
                    try clear c15
                    try clear c19
                    try clear p19
                    try clear q19
                    try clear hx19
                    try clear qi19
                    try clear p21
                    try clear q21
                    try clear hx21
                    try clear qi21
                    try clear p22
                    try clear q22
                    try clear hx22
                    try clear qi22
                    try clear p23
                    try clear q23
                    try clear hx23
                    try clear qi23
                    try clear c26
                    try clear q26
                    try clear c27
                    try clear c30
                    try clear c36
                    try clear c48
                    try clear c50
                    try clear c50b0
                    try clear c50b1
                    try clear c51
                    try clear c51b0
                    try clear c51b1
                    try clear c52
                    try clear c54
                    try clear c54b0
                    try clear c54b1
                    try clear c55
                    try clear c57
                    try clear c57b0
                    try clear c57b1
                    try clear c58
                    try clear c60
                    try clear c60b0
                    try clear c60b1
                    try clear c61
                    try clear c63
                    try clear c63b0
                    try clear c63b1
                    try clear c64
                    try clear c67
                    try clear c67b0
                    try clear c67b1
                    try clear c68
                    try clear c68b0
                    try clear c68b1
                    try clear c69
                    try clear c70
                    try clear c70b0
                    try clear c70b1
                    try clear c71
                    try clear c74
                    try clear c74b0
                    try clear c74b1
                    try clear c75
                    try clear c75b0
                    try clear c75b1
                    try clear c76
                    try clear c77
                    try clear c77b0
                    try clear c77b1
                    try clear c78
                    try clear c80
                    try clear c80b0
                    try clear c80b1
                    try clear c82
                    try clear c84
                    try clear q84
                    try clear c86
                    try clear c86b0
                    try clear c86b1
                    try clear c87
                    try clear c87b0
                    try clear c87b1
                    try clear c88
                    try clear c88b0
                    try clear c88b1
                    try clear c89
                    try clear c89b0
                    try clear c89b1
                    try clear c93
                    try clear c95
                    try clear c98
                    try clear c98b0
                    try clear c98b1
                    try clear c99
                    try clear c99b0
                    try clear c99b1
                    try clear c100
                    try clear c100b0
                    try clear c100b1
                    try clear c101
                    try clear c101b0
                    try clear c101b1
                    try clear zO
                    try clear zP
                    try clear zQ
                    try clear zR
                    try clear zS
                    try clear zY
                    try clear zZ
                    try clear zab
                    try clear zbb
                    try clear zcb
                    try clear zib
                    try clear zjb
                    try clear zkb
                    try clear zlb
                    try clear zmb
                    try clear zsb
                    try clear ztb
                    try clear zub
                    try clear zvb
                    try clear zwb
                    try clear zCb
                    try clear zDb
                    try clear zEb
                    try clear zFb
                    try clear zGb
                    try clear zMb
                    try clear zNb
                    try clear zOb
                    try clear zPb
                    try clear zQb
                    try clear zVc
                    try clear zWc
                    try clear zXc
                    try clear zYc
                    try clear zZc
                    try clear zWb
                    try clear zXb
                    try clear zYb
                    try clear zZb
                    try clear zac
                    try clear zgc
                    try clear zhc
                    try clear zic
                    try clear zjc
                    try clear zkc
                    try clear zqc
                    try clear zrc
                    try clear zsc
                    try clear ztc
                    try clear zuc
                    try clear zAc
                    try clear zBc
                    try clear zCc
                    try clear zDc
                    try clear zEc
                    try clear zKc
                    try clear zLc
                    try clear zMc
                    try clear zNc
                    try clear zOc
                    try clear zfd
                    try clear zgd
                    try clear zhd
                    try clear zid
                    try clear zjd
                    try clear zqd
                    try clear zrd
                    try clear zsd
                    try clear ztd
                    try clear zud
                    try clear zCd
                    try clear zDd
                    try clear zEd
                    try clear zFd
                    try clear zGd
                    try clear zT
                    try clear zU
                    try clear zV
                    try clear zW
                    try clear zX
                    try clear zdb
                    try clear zeb
                    try clear zfb
                    try clear zgb
                    try clear zhb
                    try clear znb
                    try clear zob
                    try clear zpb
                    try clear zqb
                    try clear zrb
                    try clear zxb
                    try clear zyb
                    try clear zzb
                    try clear zAb
                    try clear zBb
                    try clear zHb
                    try clear zIb
                    try clear zJb
                    try clear zKb
                    try clear zLb
                    try clear zRb
                    try clear zSb
                    try clear zTb
                    try clear zUb
                    try clear zVb
                    try clear zad
                    try clear zbd
                    try clear zcd
                    try clear zdd
                    try clear zed
                    try clear zbc
                    try clear zcc
                    try clear zdc
                    try clear zec
                    try clear zfc
                    try clear zlc
                    try clear zmc
                    try clear znc
                    try clear zoc
                    try clear zpc
                    try clear zvc
                    try clear zwc
                    try clear zxc
                    try clear zyc
                    try clear zzc
                    try clear zFc
                    try clear zGc
                    try clear zHc
                    try clear zIc
                    try clear zJc
                    try clear zPc
                    try clear zQc
                    try clear zRc
                    try clear zSc
                    try clear zTc
                    try clear zkd
                    try clear zld
                    try clear zmd
                    try clear znd
                    try clear zod
                    try clear zvd
                    try clear zwd
                    try clear zxd
                    try clear zyd
                    try clear zzd
                    try clear zHd
                    try clear zId
                    try clear zJd
                    try clear zKd
                    try clear zLd
                    try clear hx195_0
                    try clear hx214_0
                    try clear hx215_0
                    try clear hx216_0
                    try clear hx217_0
                    try clear hx218_0
                    try clear hx227_0
                    try clear hx228_0
                    try clear hx230_0
                    try clear hx231_0
                    try clear p1
                    try clear p19
                    try clear p195
                    try clear p2
                    try clear p21
                    try clear p214
                    try clear p215
                    try clear p216
                    try clear p217
                    try clear p218
                    try clear p22
                    try clear p227
                    try clear p228
                    try clear p230
                    try clear p231
                    try clear q1
                    try clear q19
                    try clear q195
                    try clear q2
                    try clear q21
                    try clear q214
                    try clear q215
                    try clear q216
                    try clear q217
                    try clear q218
                    try clear q22
                    try clear q227
                    try clear q228
                    try clear q230
                    try clear q231
                    try clear q26
                    try clear q8
                    try clear q84
                    obtain ⟨kq, x132_96, rfl, HA, HJ96, zI, zJ, zC, zG, HR222, HB⟩ := hcut
                    cases kq with
                    | zero => exact absurd HA.out (by simp [spec_ParseLine.j4])
                    | succ kj96 =>
                     have H := HA.out
                     clear HA
                     simp only [spec_ParseLine.j4] at H
                     by_cases c105 : x132_96 = true
                     ·subst c105
                      rw [if_pos rfl] at H
                      simp only [Option.some.injEq, Prod.mk.injEq] at H
                      obtain ⟨rfl, rfl, rfl, rfl, rfl⟩ := H
                      obtain ⟨Ao106, co106, eo106⟩ := Kd.R_slice zJ.out
                      subst eo106
                      have zyf := zF.out
                      have zzf := zL.out
                      have zMd : wc.cell? ⟨zD, 0, none⟩ = some (.int .i64 x192000_41) := (zc zC.out 0).trans rfl
                      have zNd : wc.cell? ⟨zD, 1, none⟩ = some (.slice none 0 0) := (zc zC.out 1).trans rfl
                      have zOd : wc.cell? ⟨zD, 2, none⟩ = some (.bool x192002_41) := (zc zC.out 2).trans rfl
                      have zPd : wc.cell? ⟨zD, 3, none⟩ = some (.string x192003_41) := (zc zC.out 3).trans rfl
                      have zQd : wc.cell? ⟨zD, 4, none⟩ = some (.slice none 0 0) := (zc zC.out 4).trans rfl
                      have zRd := zb zC.out 0
                      have zSd := zb zC.out 1
                      have zTd := zb zC.out 2
                      have zUd := zb zC.out 3
                      have zVd := zb zC.out 4
                      go_wp2
                      refine bodyPost_ret (results_cell_row rfl _ _ zD 66 #[.int .i64 8, .slice none 0 0, .bool false, .string (⟨#[]⟩ : ByteArray), .slice Ao106 t223.length co106] (0, 0) _ rfl (bfin (by (repeat (first | (with_reducible first | refine zf ?_ _ | refine zj ?_ | refine ze ?_ _) | apply zA)); exact zC.out) (by rfl)) Tryd.underlying66 rfl (by kernel_rfl)) rfl ?_
                      exact ⟨_, _, by first | rfl | (simp [*] <;> rfl), by first | exact Kd.R_nil _ _ _ _ _ | exact Kd.N_nil _ _ _ _ _ | exact Kd.V_nil _ _ _ _ _ | exact Kd.Q_nil _ _ _ _ _ | exact Kd.S_nil _ _ _ _ _, RL (Kd.R_mono (Kd.R_far (p := ⟨zD, 4, none⟩) (Kd.R_far (p := ⟨zD, 3, none⟩) (Kd.R_far (p := ⟨zD, 2, none⟩) (Kd.R_far (p := ⟨zD, 1, none⟩) (Kd.R_far (p := ⟨zD, 0, none⟩) (Kd.R_types zJ.out zC.out (by decide)) (fun _ hk => hk.2) (.int .i64 8)) (fun _ hk => hk.2) (.slice none 0 0)) (fun _ hk => hk.2) (.bool false)) (fun _ hk => hk.2) (.string (⟨#[]⟩ : ByteArray))) (fun _ hk => hk.2) (.slice Ao106 t223.length co106)) (fun _ hk => trivial)), by repeat (first | (with_reducible first | exact HB.out | apply zh | apply zd | apply zi | refine zl ?_ zK.out | refine zl ?_ zM.out) | exact HB.out)⟩
                     ·replace c105 := Bool.eq_false_iff.mpr c105
                      subst c105
                      rw [if_neg (show ¬ (false = true) by decide)] at H
                      by_cases c109 : 0 < (t192.length : Int)
                      ·rw [if_pos c109] at H
                       have c109b0 : decide (0 < (t192.length : Int)) = true := decide_eq_true c109
                       have c109b1 : decide (0 < t192.length) = true := decide_eq_true (by omega)
                       clear c109
                       by_cases c110 : (rdOf ByteArray.empty t192 0).toList = ([99, 114, 97, 115, 104] : List UInt8)
                       ·rw [if_pos c110] at H
                        have c110b0 : ((rdOf ByteArray.empty t192 0).toList == ([99, 114, 97, 115, 104] : List UInt8)) = true := beq_iff_eq.mpr c110
                        have c110b1 : ((rdOf ByteArray.empty t192 0).toList != ([99, 114, 97, 115, 104] : List UInt8)) = false := bne_eq_false_iff_eq.mpr c110
                        clear c110
                        simp only [Option.some.injEq, Prod.mk.injEq] at H
                        obtain ⟨rfl, rfl, rfl, rfl, rfl⟩ := H
                        have p233 : 0 ≤ (0 : Int) := (by omega)
                        have q233 : 0 < (t192.length : Int) := of_decide_eq_true (by with_reducible assumption)
                        obtain ⟨ad233, e233, hx233_0⟩ := Kd.at_string (Kd.R_reads' zI.out).2.2 0 p233 q233
                        obtain rfl : ad195 = ad233 := (by injection e233)
                        have qi233 : (0 < t192.length) = True := eq_true (by omega)
                        (try rw [show ((0 : Int)).toNat = 0 from rfl] at hx233_0)
                        (try rw [Addr.add_zero'] at hx233_0)
                        replace p233 := eq_true p233
                        replace q233 := eq_true q233
                        obtain ⟨Ao111, co111, eo111⟩ := Kd.R_slice zJ.out
                        subst eo111
                        have zAf := zF.out
                        have zBf := zL.out
                        have zWd : wc.cell? ⟨zD, 0, none⟩ = some (.int .i64 x192000_41) := (zc zC.out 0).trans rfl
                        have zXd : wc.cell? ⟨zD, 1, none⟩ = some (.slice none 0 0) := (zc zC.out 1).trans rfl
                        have zYd : wc.cell? ⟨zD, 2, none⟩ = some (.bool x192002_41) := (zc zC.out 2).trans rfl
                        have zZd : wc.cell? ⟨zD, 3, none⟩ = some (.string x192003_41) := (zc zC.out 3).trans rfl
                        have zae : wc.cell? ⟨zD, 4, none⟩ = some (.slice none 0 0) := (zc zC.out 4).trans rfl
                        have zbe := zb zC.out 0
                        have zce := zb zC.out 1
                        have zde := zb zC.out 2
                        have zee := zb zC.out 3
                        have zfe := zb zC.out 4
                        go_wp2
                        refine bodyPost_ret (results_cell_row rfl _ _ zD 66 #[.int .i64 9, .slice none 0 0, .bool false, .string (⟨#[]⟩ : ByteArray), .slice Ao111 t223.length co111] (0, 0) _ rfl (bfin (by (repeat (first | (with_reducible first | refine zf ?_ _ | refine zj ?_ | refine ze ?_ _) | apply zA)); exact zC.out) (by rfl)) Tryd.underlying66 rfl (by kernel_rfl)) rfl ?_
                        exact ⟨_, _, by first | rfl | (simp [*] <;> rfl), by first | exact Kd.R_nil _ _ _ _ _ | exact Kd.N_nil _ _ _ _ _ | exact Kd.V_nil _ _ _ _ _ | exact Kd.Q_nil _ _ _ _ _ | exact Kd.S_nil _ _ _ _ _, RL (Kd.R_mono (Kd.R_far (p := ⟨zD, 4, none⟩) (Kd.R_far (p := ⟨zD, 3, none⟩) (Kd.R_far (p := ⟨zD, 2, none⟩) (Kd.R_far (p := ⟨zD, 1, none⟩) (Kd.R_far (p := ⟨zD, 0, none⟩) (Kd.R_types zJ.out zC.out (by decide)) (fun _ hk => hk.2) (.int .i64 9)) (fun _ hk => hk.2) (.slice none 0 0)) (fun _ hk => hk.2) (.bool false)) (fun _ hk => hk.2) (.string (⟨#[]⟩ : ByteArray))) (fun _ hk => hk.2) (.slice Ao111 t223.length co111)) (fun _ hk => trivial)), by repeat (first | (with_reducible first | exact HB.out | apply zh | apply zd | apply zi | refine zl ?_ zK.out | refine zl ?_ zM.out) | exact HB.out)⟩
                       ·rw [if_neg c110] at H
                        have c110b0 : ((rdOf ByteArray.empty t192 0).toList == ([99, 114, 97, 115, 104] : List UInt8)) = false := beq_eq_false_iff_ne.mpr c110
                        have c110b1 : ((rdOf ByteArray.empty t192 0).toList != ([99, 114, 97, 115, 104] : List UInt8)) = true := bne_iff_ne.mpr c110
                        by_cases c114 : (rdOf ByteArray.empty t192 0).toList = ([114, 111, 116] : List UInt8)
                        ·rw [if_pos c114] at H
                         have c114b0 : ((rdOf ByteArray.empty t192 0).toList == ([114, 111, 116] : List UInt8)) = true := beq_iff_eq.mpr c114
                         have c114b1 : ((rdOf ByteArray.empty t192 0).toList != ([114, 111, 116] : List UInt8)) = false := bne_eq_false_iff_eq.mpr c114
                         clear c114
                         by_cases c115 : (t223.length : Int) = 3
                         ·rw [if_pos c115] at H
                          have c115b0 : ((t223.length : Int) == 3) = true := beq_iff_eq.mpr c115
                          have c115b1 : ((t223.length : Int) != 3) = false := bne_eq_false_iff_eq.mpr c115
                          clear c115
                          by_cases c116 : 0 < (t223.length : Int)
                          ·rw [if_pos c116] at H
                           have c116b0 : decide (0 < (t223.length : Int)) = true := decide_eq_true c116
                           have c116b1 : decide (0 < t223.length) = true := decide_eq_true (by omega)
                           clear c116
                           replace H := Option.bind_eq_some_iff.mp H
                           obtain ⟨t236, A1170, H⟩ := H
                           try dsimp only at H
                           have A117 := Aside0.mk A1170
                           clear A1170
                           by_cases c118 : t236 = true
                           ·subst c118
                            rw [if_pos rfl] at H
                            by_cases c119 : 1 < (t223.length : Int)
                            ·rw [if_pos c119] at H
                             have c119b0 : decide (1 < (t223.length : Int)) = true := decide_eq_true c119
                             have c119b1 : decide (1 < t223.length) = true := decide_eq_true (by omega)
                             clear c119
                             replace H := Option.bind_eq_some_iff.mp H
                             obtain ⟨t238, A1200, H⟩ := H
                             try dsimp only at H
                             have A120 := Aside0.mk A1200
                             clear A1200
                             by_cases c121 : t238 = true
                             ·subst c121
                              rw [if_pos rfl] at H
                              by_cases c122 : 2 < (t223.length : Int)
                              ·rw [if_pos c122] at H
                               have c122b0 : decide (2 < (t223.length : Int)) = true := decide_eq_true c122
                               have c122b1 : decide (2 < t223.length) = true := decide_eq_true (by omega)
                               clear c122
                               replace H := Option.bind_eq_some_iff.mp H
                               obtain ⟨t240, A1230, H⟩ := H
                               try dsimp only at H
                               have A123 := Aside0.mk A1230
                               clear A1230
                               by_cases c124 : t240 = true
                               ·subst c124
                                rw [if_pos rfl] at H
                                simp only [Option.some.injEq, Prod.mk.injEq] at H
                                obtain ⟨rfl, rfl, rfl, rfl, rfl⟩ := H
                                have p233 : 0 ≤ (0 : Int) := (by omega)
                                have q233 : 0 < (t192.length : Int) := of_decide_eq_true (by with_reducible assumption)
                                obtain ⟨ad233, e233, hx233_0⟩ := Kd.at_string (Kd.R_reads' zI.out).2.2 0 p233 q233
                                obtain rfl : ad195 = ad233 := (by injection e233)
                                have qi233 : (0 < t192.length) = True := eq_true (by omega)
                                (try rw [show ((0 : Int)).toNat = 0 from rfl] at hx233_0)
                                (try rw [Addr.add_zero'] at hx233_0)
                                replace p233 := eq_true p233
                                replace q233 := eq_true q233
                                have p234 : 0 ≤ (0 : Int) := (by omega)
                                have q234 : 0 < (t192.length : Int) := of_decide_eq_true (by with_reducible assumption)
                                obtain ⟨ad234, e234, hx234_0⟩ := Kd.at_string (Kd.R_reads' zI.out).2.2 0 p234 q234
                                obtain rfl : ad195 = ad234 := (by injection e234)
                                have qi234 : (0 < t192.length) = True := eq_true (by omega)
                                (try rw [show ((0 : Int)).toNat = 0 from rfl] at hx234_0)
                                (try rw [Addr.add_zero'] at hx234_0)
                                replace p234 := eq_true p234
                                replace q234 := eq_true q234
                                obtain ⟨Ao125, co125, eo125⟩ := Kd.R_slice zJ.out
                                subst eo125
                                have p235 : 0 ≤ (0 : Int) := (by omega)
                                have q235 : 0 < (t223.length : Int) := of_decide_eq_true (by with_reducible assumption)
                                obtain ⟨ad235, e235, hx235_0⟩ := Kd.at_int (Kd.R_reads' zJ.out).2.2 0 p235 q235
                                cases e235
                                have qi235 : (0 < t223.length) = True := eq_true (by omega)
                                (try rw [show ((0 : Int)).toNat = 0 from rfl] at hx235_0)
                                (try rw [Addr.add_zero'] at hx235_0)
                                replace p235 := eq_true p235
                                replace q235 := eq_true q235
                                go_wp2_with (first | (go_at_call 76; (with_reducible refine (spec_l6Between.calls (rd t223 0) 0 1 true _ A117.out).mono ?_); rintro e w' ⟨rfl, ⟨nd, rfl⟩⟩; (try (rw [drewN_self wc]; generalize hq_ : World.drewN wc _ = wc; have n0_ : Aside0 (Kd.R Kd.string 9 wc w.heap.size (fun _ => True) (.slice (some ad195) t192.length co45) t192) := ⟨by rw [← hq_]; exact (RL zI.out)⟩; have n1_ : Aside0 (Kd.R (Kd.int .i64) 2 wc w.heap.size (fun _ => True) (.slice (some ad235) t223.length co125) t223) := ⟨by rw [← hq_]; exact (RL zJ.out)⟩; have n2_ : Aside0 (wc.heap[zD]? = some (.cells #[.int .i64 x192000_41, .slice none 0 0, .bool x192002_41, .string x192003_41, .slice none 0 0] 66 (0, 0))) := ⟨by rw [← hq_]; exact (BL zC.out)⟩; have n3_ : Aside0 (wc.heap[zE]? = some (.cells #[.int .i64 t204, .string t205, .string t206, .int .i64 t207, .bool t208] 124 (0, 0))) := ⟨by rw [← hq_]; exact (BL zG.out)⟩; have n4_ : Aside0 (Below w.heap.size w wc) := ⟨by rw [← hq_]; exact (by exact bl HB.out)⟩; clear zI zJ zC zG HB hq_; have zI := n0_; have zJ := n1_; have zC := n2_; have zG := n3_; have HB := n4_; clear n0_ n1_ n2_ n3_ n4_)); have p237 : 0 ≤ (1 : Int) := (by omega); have q237 : 1 < (t223.length : Int) := of_decide_eq_true (by with_reducible assumption); obtain ⟨ad237, e237, hx237_0⟩ := Kd.at_int (Kd.R_reads' zJ.out).2.2 1 p237 q237; obtain rfl : ad235 = ad237 := (by injection e237); (try simp only [show (1 : Int).toNat = 1 from rfl, Nat.reduceMul, Nat.reduceEqDiff, Go.Addr.add, ↓reduceIte] at hx237_0); have qi237 : (1 < t223.length) = True := eq_true (by omega); (try rw [show ((1 : Int)).toNat = 1 from rfl] at hx237_0); replace p237 := eq_true p237; replace q237 := eq_true q237) | (go_at_call 76; (with_reducible refine (spec_l6Between.calls (rd t223 1) 0 4095 true _ A120.out).mono ?_); rintro e w' ⟨rfl, ⟨nd, rfl⟩⟩; (try (rw [drewN_self wc]; generalize hq_ : World.drewN wc _ = wc; have n0_ : Aside0 (Kd.R Kd.string 9 wc w.heap.size (fun _ => True) (.slice (some ad195) t192.length co45) t192) := ⟨by rw [← hq_]; exact (RL zI.out)⟩; have n1_ : Aside0 (Kd.R (Kd.int .i64) 2 wc w.heap.size (fun _ => True) (.slice (some ad235) t223.length co125) t223) := ⟨by rw [← hq_]; exact (RL zJ.out)⟩; have n2_ : Aside0 (wc.heap[zD]? = some (.cells #[.int .i64 x192000_41, .slice none 0 0, .bool x192002_41, .string x192003_41, .slice none 0 0] 66 (0, 0))) := ⟨by rw [← hq_]; exact (BL zC.out)⟩; have n3_ : Aside0 (wc.heap[zE]? = some (.cells #[.int .i64 t204, .string t205, .string t206, .int .i64 t207, .bool t208] 124 (0, 0))) := ⟨by rw [← hq_]; exact (BL zG.out)⟩; have n4_ : Aside0 (Below w.heap.size w wc) := ⟨by rw [← hq_]; exact (by exact bl HB.out)⟩; clear zI zJ zC zG HB hq_; have zI := n0_; have zJ := n1_; have zC := n2_; have zG := n3_; have HB := n4_; clear n0_ n1_ n2_ n3_ n4_)); have p239 : 0 ≤ (2 : Int) := (by omega); have q239 : 2 < (t223.length : Int) := of_decide_eq_true (by with_reducible assumption); obtain ⟨ad239, e239, hx239_0⟩ := Kd.at_int (Kd.R_reads' zJ.out).2.2 2 p239 q239; obtain rfl : ad235 = ad239 := (by injection e239); (try simp only [show (2 : Int).toNat = 2 from rfl, Nat.reduceMul, Nat.reduceEqDiff, Go.Addr.add, ↓reduceIte] at hx239_0); have qi239 : (2 < t223.length) = True := eq_true (by omega); (try rw [show ((2 : Int)).toNat = 2 from rfl] at hx239_0); replace p239 := eq_true p239; replace q239 := eq_true q239) | (go_at_call 76; (with_reducible refine (spec_l6Between.calls (rd t223 2) 1 255 true _ A123.out).mono ?_); rintro e w' ⟨rfl, ⟨nd, rfl⟩⟩; (try (rw [drewN_self wc]; generalize hq_ : World.drewN wc _ = wc; have n0_ : Aside0 (Kd.R Kd.string 9 wc w.heap.size (fun _ => True) (.slice (some ad195) t192.length co45) t192) := ⟨by rw [← hq_]; exact (RL zI.out)⟩; have n1_ : Aside0 (Kd.R (Kd.int .i64) 2 wc w.heap.size (fun _ => True) (.slice (some ad235) t223.length co125) t223) := ⟨by rw [← hq_]; exact (RL zJ.out)⟩; have n2_ : Aside0 (wc.heap[zD]? = some (.cells #[.int .i64 x192000_41, .slice none 0 0, .bool x192002_41, .string x192003_41, .slice none 0 0] 66 (0, 0))) := ⟨by rw [← hq_]; exact (BL zC.out)⟩; have n3_ : Aside0 (wc.heap[zE]? = some (.cells #[.int .i64 t204, .string t205, .string t206, .int .i64 t207, .bool t208] 124 (0, 0))) := ⟨by rw [← hq_]; exact (BL zG.out)⟩; have n4_ : Aside0 (Below w.heap.size w wc) := ⟨by rw [← hq_]; exact (by exact bl HB.out)⟩; clear zI zJ zC zG HB hq_; have zI := n0_; have zJ := n1_; have zC := n2_; have zG := n3_; have HB := n4_; clear n0_ n1_ n2_ n3_ n4_)); have zCf := zF.out; have zDf := zL.out; have zge : wc.cell? ⟨zD, 0, none⟩ = some (.int .i64 x192000_41) := (zc zC.out 0).trans rfl; have zhe : wc.cell? ⟨zD, 1, none⟩ = some (.slice none 0 0) := (zc zC.out 1).trans rfl; have zie : wc.cell? ⟨zD, 2, none⟩ = some (.bool x192002_41) := (zc zC.out 2).trans rfl; have zje : wc.cell? ⟨zD, 3, none⟩ = some (.string x192003_41) := (zc zC.out 3).trans rfl; have zke : wc.cell? ⟨zD, 4, none⟩ = some (.slice none 0 0) := (zc zC.out 4).trans rfl; have zle := zb zC.out 0; have zme := zb zC.out 1; have zne := zb zC.out 2; have zoe := zb zC.out 3; have zpe := zb zC.out 4))
                                refine bodyPost_ret (results_cell_row rfl _ _ zD 66 #[.int .i64 10, .slice none 0 0, .bool false, .string (⟨#[]⟩ : ByteArray), .slice (some ad235) t223.length co125] (0, 0) _ rfl (bfin (by (repeat (first | (with_reducible first | refine zf ?_ _ | refine zj ?_ | refine ze ?_ _) | apply zA)); exact zC.out) (by rfl)) Tryd.underlying66 rfl (by kernel_rfl)) rfl ?_
                                exact ⟨_, _, by first | rfl | (simp [*] <;> rfl), by first | exact Kd.R_nil _ _ _ _ _ | exact Kd.N_nil _ _ _ _ _ | exact Kd.V_nil _ _ _ _ _ | exact Kd.Q_nil _ _ _ _ _ | exact Kd.S_nil _ _ _ _ _, RL (Kd.R_mono (Kd.R_far (p := ⟨zD, 4, none⟩) (Kd.R_far (p := ⟨zD, 3, none⟩) (Kd.R_far (p := ⟨zD, 2, none⟩) (Kd.R_far (p := ⟨zD, 1, none⟩) (Kd.R_far (p := ⟨zD, 0, none⟩) (Kd.R_types zJ.out zC.out (by decide)) (fun _ hk => hk.2) (.int .i64 10)) (fun _ hk => hk.2) (.slice none 0 0)) (fun _ hk => hk.2) (.bool false)) (fun _ hk => hk.2) (.string (⟨#[]⟩ : ByteArray))) (fun _ hk => hk.2) (.slice (some ad235) t223.length co125)) (fun _ hk => trivial)), by repeat (first | (with_reducible first | exact HB.out | apply zh | apply zd | apply zi | refine zl ?_ zK.out | refine zl ?_ zM.out) | exact HB.out)⟩
                               ·replace c124 := Bool.eq_false_iff.mpr c124
                                subst c124
                                rw [if_neg (show ¬ (false = true) by decide)] at H
                                simp only [Option.some.injEq, Prod.mk.injEq] at H
                                obtain ⟨rfl, rfl, rfl, rfl, rfl⟩ := H
                                have p233 : 0 ≤ (0 : Int) := (by omega)
                                have q233 : 0 < (t192.length : Int) := of_decide_eq_true (by with_reducible assumption)
                                obtain ⟨ad233, e233, hx233_0⟩ := Kd.at_string (Kd.R_reads' zI.out).2.2 0 p233 q233
                                obtain rfl : ad195 = ad233 := (by injection e233)
                                have qi233 : (0 < t192.length) = True := eq_true (by omega)
                                (try rw [show ((0 : Int)).toNat = 0 from rfl] at hx233_0)
                                (try rw [Addr.add_zero'] at hx233_0)
                                replace p233 := eq_true p233
                                replace q233 := eq_true q233
                                have p234 : 0 ≤ (0 : Int) := (by omega)
                                have q234 : 0 < (t192.length : Int) := of_decide_eq_true (by with_reducible assumption)
                                obtain ⟨ad234, e234, hx234_0⟩ := Kd.at_string (Kd.R_reads' zI.out).2.2 0 p234 q234
                                obtain rfl : ad195 = ad234 := (by injection e234)
                                have qi234 : (0 < t192.length) = True := eq_true (by omega)
                                (try rw [show ((0 : Int)).toNat = 0 from rfl] at hx234_0)
                                (try rw [Addr.add_zero'] at hx234_0)
                                replace p234 := eq_true p234
                                replace q234 := eq_true q234
                                obtain ⟨Ao128, co128, eo128⟩ := Kd.R_slice zJ.out
                                subst eo128
                                have p235 : 0 ≤ (0 : Int) := (by omega)
                                have q235 : 0 < (t223.length : Int) := of_decide_eq_true (by with_reducible assumption)
                                obtain ⟨ad235, e235, hx235_0⟩ := Kd.at_int (Kd.R_reads' zJ.out).2.2 0 p235 q235
                                cases e235
                                have qi235 : (0 < t223.length) = True := eq_true (by omega)
                                (try rw [show ((0 : Int)).toNat = 0 from rfl] at hx235_0)
                                (try rw [Addr.add_zero'] at hx235_0)
                                replace p235 := eq_true p235
                                replace q235 := eq_true q235
                                go_wp2_with (first | (go_at_call 76; (with_reducible refine (spec_l6Between.calls (rd t223 0) 0 1 true _ A117.out).mono ?_); rintro e w' ⟨rfl, ⟨nd, rfl⟩⟩; (try (rw [drewN_self wc]; generalize hq_ : World.drewN wc _ = wc; have n0_ : Aside0 (Kd.R Kd.string 9 wc w.heap.size (fun _ => True) (.slice (some ad195) t192.length co45) t192) := ⟨by rw [← hq_]; exact (RL zI.out)⟩; have n1_ : Aside0 (Kd.R (Kd.int .i64) 2 wc w.heap.size (fun _ => True) (.slice (some ad235) t223.length co128) t223) := ⟨by rw [← hq_]; exact (RL zJ.out)⟩; have n2_ : Aside0 (wc.heap[zD]? = some (.cells #[.int .i64 x192000_41, .slice none 0 0, .bool x192002_41, .string x192003_41, .slice none 0 0] 66 (0, 0))) := ⟨by rw [← hq_]; exact (BL zC.out)⟩; have n3_ : Aside0 (wc.heap[zE]? = some (.cells #[.int .i64 t204, .string t205, .string t206, .int .i64 t207, .bool t208] 124 (0, 0))) := ⟨by rw [← hq_]; exact (BL zG.out)⟩; have n4_ : Aside0 (Below w.heap.size w wc) := ⟨by rw [← hq_]; exact (by exact bl HB.out)⟩; clear zI zJ zC zG HB hq_; have zI := n0_; have zJ := n1_; have zC := n2_; have zG := n3_; have HB := n4_; clear n0_ n1_ n2_ n3_ n4_)); have p237 : 0 ≤ (1 : Int) := (by omega); have q237 : 1 < (t223.length : Int) := of_decide_eq_true (by with_reducible assumption); obtain ⟨ad237, e237, hx237_0⟩ := Kd.at_int (Kd.R_reads' zJ.out).2.2 1 p237 q237; obtain rfl : ad235 = ad237 := (by injection e237); (try simp only [show (1 : Int).toNat = 1 from rfl, Nat.reduceMul, Nat.reduceEqDiff, Go.Addr.add, ↓reduceIte] at hx237_0); have qi237 : (1 < t223.length) = True := eq_true (by omega); (try rw [show ((1 : Int)).toNat = 1 from rfl] at hx237_0); replace p237 := eq_true p237; replace q237 := eq_true q237) | (go_at_call 76; (with_reducible refine (spec_l6Between.calls (rd t223 1) 0 4095 true _ A120.out).mono ?_); rintro e w' ⟨rfl, ⟨nd, rfl⟩⟩; (try (rw [drewN_self wc]; generalize hq_ : World.drewN wc _ = wc; have n0_ : Aside0 (Kd.R Kd.string 9 wc w.heap.size (fun _ => True) (.slice (some ad195) t192.length co45) t192) := ⟨by rw [← hq_]; exact (RL zI.out)⟩; have n1_ : Aside0 (Kd.R (Kd.int .i64) 2 wc w.heap.size (fun _ => True) (.slice (some ad235) t223.length co128) t223) := ⟨by rw [← hq_]; exact (RL zJ.out)⟩; have n2_ : Aside0 (wc.heap[zD]? = some (.cells #[.int .i64 x192000_41, .slice none 0 0, .bool x192002_41, .string x192003_41, .slice none 0 0] 66 (0, 0))) := ⟨by rw [← hq_]; exact (BL zC.out)⟩; have n3_ : Aside0 (wc.heap[zE]? = some (.cells #[.int .i64 t204, .string t205, .string t206, .int .i64 t207, .bool t208] 124 (0, 0))) := ⟨by rw [← hq_]; exact (BL zG.out)⟩; have n4_ : Aside0 (Below w.heap.size w wc) := ⟨by rw [← hq_]; exact (by exact bl HB.out)⟩; clear zI zJ zC zG HB hq_; have zI := n0_; have zJ := n1_; have zC := n2_; have zG := n3_; have HB := n4_; clear n0_ n1_ n2_ n3_ n4_)); have p239 : 0 ≤ (2 : Int) := (by omega); have q239 : 2 < (t223.length : Int) := of_decide_eq_true (by with_reducible assumption); obtain ⟨ad239, e239, hx239_0⟩ := Kd.at_int (Kd.R_reads' zJ.out).2.2 2 p239 q239; obtain rfl : ad235 = ad239 := (by injection e239); (try simp only [show (2 : Int).toNat = 2 from rfl, Nat.reduceMul, Nat.reduceEqDiff, Go.Addr.add, ↓reduceIte] at hx239_0); have qi239 : (2 < t223.length) = True := eq_true (by omega); (try rw [show ((2 : Int)).toNat = 2 from rfl] at hx239_0); replace p239 := eq_true p239; replace q239 := eq_true q239) | (go_at_call 76; (with_reducible refine (spec_l6Between.calls (rd t223 2) 1 255 false _ A123.out).mono ?_); rintro e w' ⟨rfl, ⟨nd, rfl⟩⟩; (try (rw [drewN_self wc]; generalize hq_ : World.drewN wc _ = wc; have n0_ : Aside0 (Kd.R Kd.string 9 wc w.heap.size (fun _ => True) (.slice (some ad195) t192.length co45) t192) := ⟨by rw [← hq_]; exact (RL zI.out)⟩; have n1_ : Aside0 (Kd.R (Kd.int .i64) 2 wc w.heap.size (fun _ => True) (.slice (some ad235) t223.length co128) t223) := ⟨by rw [← hq_]; exact (RL zJ.out)⟩; have n2_ : Aside0 (wc.heap[zD]? = some (.cells #[.int .i64 x192000_41, .slice none 0 0, .bool x192002_41, .string x192003_41, .slice none 0 0] 66 (0, 0))) := ⟨by rw [← hq_]; exact (BL zC.out)⟩; have n3_ : Aside0 (wc.heap[zE]? = some (.cells #[.int .i64 t204, .string t205, .string t206, .int .i64 t207, .bool t208] 124 (0, 0))) := ⟨by rw [← hq_]; exact (BL zG.out)⟩; have n4_ : Aside0 (Below w.heap.size w wc) := ⟨by rw [← hq_]; exact (by exact bl HB.out)⟩; clear zI zJ zC zG HB hq_; have zI := n0_; have zJ := n1_; have zC := n2_; have zG := n3_; have HB := n4_; clear n0_ n1_ n2_ n3_ n4_)); have zEf := zF.out; have zFf := zL.out; have zqe : wc.cell? ⟨zD, 0, none⟩ = some (.int .i64 x192000_41) := (zc zC.out 0).trans rfl; have zre : wc.cell? ⟨zD, 1, none⟩ = some (.slice none 0 0) := (zc zC.out 1).trans rfl; have zse : wc.cell? ⟨zD, 2, none⟩ = some (.bool x192002_41) := (zc zC.out 2).trans rfl; have zte : wc.cell? ⟨zD, 3, none⟩ = some (.string x192003_41) := (zc zC.out 3).trans rfl; have zue : wc.cell? ⟨zD, 4, none⟩ = some (.slice none 0 0) := (zc zC.out 4).trans rfl; have zve := zb zC.out 0; have zwe := zb zC.out 1; have zxe := zb zC.out 2; have zye := zb zC.out 3; have zze := zb zC.out 4))
                                refine bodyPost_ret (results_cell_row rfl _ _ zD 66 #[.int .i64 0, .slice none 0 0, .bool false, .string (⟨#[]⟩ : ByteArray), .slice none 0 0] (0, 0) _ rfl (bfin (by (repeat (first | (with_reducible first | refine zf ?_ _ | refine zj ?_ | refine ze ?_ _) | apply zA)); exact zC.out) (by rfl)) Tryd.underlying66 rfl (by kernel_rfl)) rfl ?_
                                exact ⟨_, _, by first | rfl | (simp [*] <;> rfl), by first | exact Kd.R_nil _ _ _ _ _ | exact Kd.N_nil _ _ _ _ _ | exact Kd.V_nil _ _ _ _ _ | exact Kd.Q_nil _ _ _ _ _ | exact Kd.S_nil _ _ _ _ _, by first | exact Kd.R_nil _ _ _ _ _ | exact Kd.N_nil _ _ _ _ _ | exact Kd.V_nil _ _ _ _ _ | exact Kd.Q_nil _ _ _ _ _ | exact Kd.S_nil _ _ _ _ _, by repeat (first | (with_reducible first | exact HB.out | apply zh | apply zd | apply zi | refine zl ?_ zK.out | refine zl ?_ zM.out) | exact HB.out)⟩
                              ·rw [if_neg c122] at H
                               exact absurd H (by simp)
                             ·replace c121 := Bool.eq_false_iff.mpr c121
                              subst c121
                              rw [if_neg (show ¬ (false = true) by decide)] at H
                              simp only [Option.some.injEq, Prod.mk.injEq] at H
                              obtain ⟨rfl, rfl, rfl, rfl, rfl⟩ := H
                              have p233 : 0 ≤ (0 : Int) := (by omega)
                              have q233 : 0 < (t192.length : Int) := of_decide_eq_true (by with_reducible assumption)
                              obtain ⟨ad233, e233, hx233_0⟩ := Kd.at_string (Kd.R_reads' zI.out).2.2 0 p233 q233
                              obtain rfl : ad195 = ad233 := (by injection e233)
                              have qi233 : (0 < t192.length) = True := eq_true (by omega)
                              (try rw [show ((0 : Int)).toNat = 0 from rfl] at hx233_0)
                              (try rw [Addr.add_zero'] at hx233_0)
                              replace p233 := eq_true p233
                              replace q233 := eq_true q233
                              have p234 : 0 ≤ (0 : Int) := (by omega)
                              have q234 : 0 < (t192.length : Int) := of_decide_eq_true (by with_reducible assumption)
                              obtain ⟨ad234, e234, hx234_0⟩ := Kd.at_string (Kd.R_reads' zI.out).2.2 0 p234 q234
                              obtain rfl : ad195 = ad234 := (by injection e234)
                              have qi234 : (0 < t192.length) = True := eq_true (by omega)
                              (try rw [show ((0 : Int)).toNat = 0 from rfl] at hx234_0)
                              (try rw [Addr.add_zero'] at hx234_0)
                              replace p234 := eq_true p234
                              replace q234 := eq_true q234
                              obtain ⟨Ao131, co131, eo131⟩ := Kd.R_slice zJ.out
                              subst eo131
                              have p235 : 0 ≤ (0 : Int) := (by omega)
                              have q235 : 0 < (t223.length : Int) := of_decide_eq_true (by with_reducible assumption)
                              obtain ⟨ad235, e235, hx235_0⟩ := Kd.at_int (Kd.R_reads' zJ.out).2.2 0 p235 q235
                              cases e235
                              have qi235 : (0 < t223.length) = True := eq_true (by omega)
                              (try rw [show ((0 : Int)).toNat = 0 from rfl] at hx235_0)
                              (try rw [Addr.add_zero'] at hx235_0)
                              replace p235 := eq_true p235
                              replace q235 := eq_true q235
                              go_wp2_with (first | (go_at_call 76; (with_reducible refine (spec_l6Between.calls (rd t223 0) 0 1 true _ A117.out).mono ?_); rintro e w' ⟨rfl, ⟨nd, rfl⟩⟩; (try (rw [drewN_self wc]; generalize hq_ : World.drewN wc _ = wc; have n0_ : Aside0 (Kd.R Kd.string 9 wc w.heap.size (fun _ => True) (.slice (some ad195) t192.length co45) t192) := ⟨by rw [← hq_]; exact (RL zI.out)⟩; have n1_ : Aside0 (Kd.R (Kd.int .i64) 2 wc w.heap.size (fun _ => True) (.slice (some ad235) t223.length co131) t223) := ⟨by rw [← hq_]; exact (RL zJ.out)⟩; have n2_ : Aside0 (wc.heap[zD]? = some (.cells #[.int .i64 x192000_41, .slice none 0 0, .bool x192002_41, .string x192003_41, .slice none 0 0] 66 (0, 0))) := ⟨by rw [← hq_]; exact (BL zC.out)⟩; have n3_ : Aside0 (wc.heap[zE]? = some (.cells #[.int .i64 t204, .string t205, .string t206, .int .i64 t207, .bool t208] 124 (0, 0))) := ⟨by rw [← hq_]; exact (BL zG.out)⟩; have n4_ : Aside0 (Below w.heap.size w wc) := ⟨by rw [← hq_]; exact (by exact bl HB.out)⟩; clear zI zJ zC zG HB hq_; have zI := n0_; have zJ := n1_; have zC := n2_; have zG := n3_; have HB := n4_; clear n0_ n1_ n2_ n3_ n4_)); have p237 : 0 ≤ (1 : Int) := (by omega); have q237 : 1 < (t223.length : Int) := of_decide_eq_true (by with_reducible assumption); obtain ⟨ad237, e237, hx237_0⟩ := Kd.at_int (Kd.R_reads' zJ.out).2.2 1 p237 q237; obtain rfl : ad235 = ad237 := (by injection e237); (try simp only [show (1 : Int).toNat = 1 from rfl, Nat.reduceMul, Nat.reduceEqDiff, Go.Addr.add, ↓reduceIte] at hx237_0); have qi237 : (1 < t223.length) = True := eq_true (by omega); (try rw [show ((1 : Int)).toNat = 1 from rfl] at hx237_0); replace p237 := eq_true p237; replace q237 := eq_true q237) | (go_at_call 76; (with_reducible refine (spec_l6Between.calls (rd t223 1) 0 4095 false _ A120.out).mono ?_); rintro e w' ⟨rfl, ⟨nd, rfl⟩⟩; (try (rw [drewN_self wc]; generalize hq_ : World.drewN wc _ = wc; have n0_ : Aside0 (Kd.R Kd.string 9 wc w.heap.size (fun _ => True) (.slice (some ad195) t192.length co45) t192) := ⟨by rw [← hq_]; exact (RL zI.out)⟩; have n1_ : Aside0 (Kd.R (Kd.int .i64) 2 wc w.heap.size (fun _ => True) (.slice (some ad235) t223.length co131) t223) := ⟨by rw [← hq_]; exact (RL zJ.out)⟩; have n2_ : Aside0 (wc.heap[zD]? = some (.cells #[.int .i64 x192000_41, .slice none 0 0, .bool x192002_41, .string x192003_41, .slice none 0 0] 66 (0, 0))) := ⟨by rw [← hq_]; exact (BL zC.out)⟩; have n3_ : Aside0 (wc.heap[zE]? = some (.cells #[.int .i64 t204, .string t205, .string t206, .int .i64 t207, .bool t208] 124 (0, 0))) := ⟨by rw [← hq_]; exact (BL zG.out)⟩; have n4_ : Aside0 (Below w.heap.size w wc) := ⟨by rw [← hq_]; exact (by exact bl HB.out)⟩; clear zI zJ zC zG HB hq_; have zI := n0_; have zJ := n1_; have zC := n2_; have zG := n3_; have HB := n4_; clear n0_ n1_ n2_ n3_ n4_)); have zGf := zF.out; have zHf := zL.out; have zAe : wc.cell? ⟨zD, 0, none⟩ = some (.int .i64 x192000_41) := (zc zC.out 0).trans rfl; have zBe : wc.cell? ⟨zD, 1, none⟩ = some (.slice none 0 0) := (zc zC.out 1).trans rfl; have zCe : wc.cell? ⟨zD, 2, none⟩ = some (.bool x192002_41) := (zc zC.out 2).trans rfl; have zDe : wc.cell? ⟨zD, 3, none⟩ = some (.string x192003_41) := (zc zC.out 3).trans rfl; have zEe : wc.cell? ⟨zD, 4, none⟩ = some (.slice none 0 0) := (zc zC.out 4).trans rfl; have zFe := zb zC.out 0; have zGe := zb zC.out 1; have zHe := zb zC.out 2; have zIe := zb zC.out 3; have zJe := zb zC.out 4))
                              refine bodyPost_ret (results_cell_row rfl _ _ zD 66 #[.int .i64 0, .slice none 0 0, .bool false, .string (⟨#[]⟩ : ByteArray), .slice none 0 0] (0, 0) _ rfl (bfin (by (repeat (first | (with_reducible first | refine zf ?_ _ | refine zj ?_ | refine ze ?_ _) | apply zA)); exact zC.out) (by rfl)) Tryd.underlying66 rfl (by kernel_rfl)) rfl ?_
                              exact ⟨_, _, by first | rfl | (simp [*] <;> rfl), by first | exact Kd.R_nil _ _ _ _ _ | exact Kd.N_nil _ _ _ _ _ | exact Kd.V_nil _ _ _ _ _ | exact Kd.Q_nil _ _ _ _ _ | exact Kd.S_nil _ _ _ _ _, by first | exact Kd.R_nil _ _ _ _ _ | exact Kd.N_nil _ _ _ _ _ | exact Kd.V_nil _ _ _ _ _ | exact Kd.Q_nil _ _ _ _ _ | exact Kd.S_nil _ _ _ _ _, by repeat (first | (with_reducible first | exact HB.out | apply zh | apply zd | apply zi | refine zl ?_ zK.out | refine zl ?_ zM.out) | exact HB.out)⟩
                            ·rw [if_neg c119] at H
                             exact absurd H (by simp)
                           ·replace c118 := Bool.eq_false_iff.mpr c118
                            subst c118
                            rw [if_neg (show ¬ (false = true) by decide)] at H
                            simp only [Option.some.injEq, Prod.mk.injEq] at H
                            obtain ⟨rfl, rfl, rfl, rfl, rfl⟩ := H
                            have p233 : 0 ≤ (0 : Int) := (by omega)
                            have q233 : 0 < (t192.length : Int) := of_decide_eq_true (by with_reducible assumption)
                            obtain ⟨ad233, e233, hx233_0⟩ := Kd.at_string (Kd.R_reads' zI.out).2.2 0 p233 q233
                            obtain rfl : ad195 = ad233 := (by injection e233)
                            have qi233 : (0 < t192.length) = True := eq_true (by omega)
                            (try rw [show ((0 : Int)).toNat = 0 from rfl] at hx233_0)
                            (try rw [Addr.add_zero'] at hx233_0)
                            replace p233 := eq_true p233
                            replace q233 := eq_true q233
                            have p234 : 0 ≤ (0 : Int) := (by omega)
                            have q234 : 0 < (t192.length : Int) := of_decide_eq_true (by with_reducible assumption)
                            obtain ⟨ad234, e234, hx234_0⟩ := Kd.at_string (Kd.R_reads' zI.out).2.2 0 p234 q234
                            obtain rfl : ad195 = ad234 := (by injection e234)
                            have qi234 : (0 < t192.length) = True := eq_true (by omega)
                            (try rw [show ((0 : Int)).toNat = 0 from rfl] at hx234_0)
                            (try rw [Addr.add_zero'] at hx234_0)
                            replace p234 := eq_true p234
                            replace q234 := eq_true q234
                            obtain ⟨Ao134, co134, eo134⟩ := Kd.R_slice zJ.out
                            subst eo134
                            have p235 : 0 ≤ (0 : Int) := (by omega)
                            have q235 : 0 < (t223.length : Int) := of_decide_eq_true (by with_reducible assumption)
                            obtain ⟨ad235, e235, hx235_0⟩ := Kd.at_int (Kd.R_reads' zJ.out).2.2 0 p235 q235
                            cases e235
                            have qi235 : (0 < t223.length) = True := eq_true (by omega)
                            (try rw [show ((0 : Int)).toNat = 0 from rfl] at hx235_0)
                            (try rw [Addr.add_zero'] at hx235_0)
                            replace p235 := eq_true p235
                            replace q235 := eq_true q235
                            go_wp2_with (first | (go_at_call 76; (with_reducible refine (spec_l6Between.calls (rd t223 0) 0 1 false _ A117.out).mono ?_); rintro e w' ⟨rfl, ⟨nd, rfl⟩⟩; (try (rw [drewN_self wc]; generalize hq_ : World.drewN wc _ = wc; have n0_ : Aside0 (Kd.R Kd.string 9 wc w.heap.size (fun _ => True) (.slice (some ad195) t192.length co45) t192) := ⟨by rw [← hq_]; exact (RL zI.out)⟩; have n1_ : Aside0 (Kd.R (Kd.int .i64) 2 wc w.heap.size (fun _ => True) (.slice (some ad235) t223.length co134) t223) := ⟨by rw [← hq_]; exact (RL zJ.out)⟩; have n2_ : Aside0 (wc.heap[zD]? = some (.cells #[.int .i64 x192000_41, .slice none 0 0, .bool x192002_41, .string x192003_41, .slice none 0 0] 66 (0, 0))) := ⟨by rw [← hq_]; exact (BL zC.out)⟩; have n3_ : Aside0 (wc.heap[zE]? = some (.cells #[.int .i64 t204, .string t205, .string t206, .int .i64 t207, .bool t208] 124 (0, 0))) := ⟨by rw [← hq_]; exact (BL zG.out)⟩; have n4_ : Aside0 (Below w.heap.size w wc) := ⟨by rw [← hq_]; exact (by exact bl HB.out)⟩; clear zI zJ zC zG HB hq_; have zI := n0_; have zJ := n1_; have zC := n2_; have zG := n3_; have HB := n4_; clear n0_ n1_ n2_ n3_ n4_)); have zIf := zF.out; have zJf := zL.out; have zKe : wc.cell? ⟨zD, 0, none⟩ = some (.int .i64 x192000_41) := (zc zC.out 0).trans rfl; have zLe : wc.cell? ⟨zD, 1, none⟩ = some (.slice none 0 0) := (zc zC.out 1).trans rfl; have zMe : wc.cell? ⟨zD, 2, none⟩ = some (.bool x192002_41) := (zc zC.out 2).trans rfl; have zNe : wc.cell? ⟨zD, 3, none⟩ = some (.string x192003_41) := (zc zC.out 3).trans rfl; have zOe : wc.cell? ⟨zD, 4, none⟩ = some (.slice none 0 0) := (zc zC.out 4).trans rfl; have zPe := zb zC.out 0; have zQe := zb zC.out 1; have zRe := zb zC.out 2; have zSe := zb zC.out 3; have zTe := zb zC.out 4))
                            refine bodyPost_ret (results_cell_row rfl _ _ zD 66 #[.int .i64 0, .slice none 0 0, .bool false, .string (⟨#[]⟩ : ByteArray), .slice none 0 0] (0, 0) _ rfl (bfin (by (repeat (first | (with_reducible first | refine zf ?_ _ | refine zj ?_ | refine ze ?_ _) | apply zA)); exact zC.out) (by rfl)) Tryd.underlying66 rfl (by kernel_rfl)) rfl ?_
                            exact ⟨_, _, by first | rfl | (simp [*] <;> rfl), by first | exact Kd.R_nil _ _ _ _ _ | exact Kd.N_nil _ _ _ _ _ | exact Kd.V_nil _ _ _ _ _ | exact Kd.Q_nil _ _ _ _ _ | exact Kd.S_nil _ _ _ _ _, by first | exact Kd.R_nil _ _ _ _ _ | exact Kd.N_nil _ _ _ _ _ | exact Kd.V_nil _ _ _ _ _ | exact Kd.Q_nil _ _ _ _ _ | exact Kd.S_nil _ _ _ _ _, by repeat (first | (with_reducible first | exact HB.out | apply zh | apply zd | apply zi | refine zl ?_ zK.out | refine zl ?_ zM.out) | exact HB.out)⟩
                          ·rw [if_neg c116] at H
                           exact absurd H (by simp)
                         ·rw [if_neg c115] at H
                          have c115b0 : ((t223.length : Int) == 3) = false := beq_eq_false_iff_ne.mpr c115
                          have c115b1 : ((t223.length : Int) != 3) = true := bne_iff_ne.mpr c115
                          simp only [Option.some.injEq, Prod.mk.injEq] at H
                          obtain ⟨rfl, rfl, rfl, rfl, rfl⟩ := H
                          have p233 : 0 ≤ (0 : Int) := (by omega)
                          have q233 : 0 < (t192.length : Int) := of_decide_eq_true (by with_reducible assumption)
                          obtain ⟨ad233, e233, hx233_0⟩ := Kd.at_string (Kd.R_reads' zI.out).2.2 0 p233 q233
                          obtain rfl : ad195 = ad233 := (by injection e233)
                          have qi233 : (0 < t192.length) = True := eq_true (by omega)
                          (try rw [show ((0 : Int)).toNat = 0 from rfl] at hx233_0)
                          (try rw [Addr.add_zero'] at hx233_0)
                          replace p233 := eq_true p233
                          replace q233 := eq_true q233
                          have p234 : 0 ≤ (0 : Int) := (by omega)
                          have q234 : 0 < (t192.length : Int) := of_decide_eq_true (by with_reducible assumption)
                          obtain ⟨ad234, e234, hx234_0⟩ := Kd.at_string (Kd.R_reads' zI.out).2.2 0 p234 q234
                          obtain rfl : ad195 = ad234 := (by injection e234)
                          have qi234 : (0 < t192.length) = True := eq_true (by omega)
                          (try rw [show ((0 : Int)).toNat = 0 from rfl] at hx234_0)
                          (try rw [Addr.add_zero'] at hx234_0)
                          replace p234 := eq_true p234
                          replace q234 := eq_true q234
                          obtain ⟨Ao137, co137, eo137⟩ := Kd.R_slice zJ.out
                          subst eo137
                          have zKf := zF.out
                          have zLf := zL.out
                          have zUe : wc.cell? ⟨zD, 0, none⟩ = some (.int .i64 x192000_41) := (zc zC.out 0).trans rfl
                          have zVe : wc.cell? ⟨zD, 1, none⟩ = some (.slice none 0 0) := (zc zC.out 1).trans rfl
                          have zWe : wc.cell? ⟨zD, 2, none⟩ = some (.bool x192002_41) := (zc zC.out 2).trans rfl
                          have zXe : wc.cell? ⟨zD, 3, none⟩ = some (.string x192003_41) := (zc zC.out 3).trans rfl
                          have zYe : wc.cell? ⟨zD, 4, none⟩ = some (.slice none 0 0) := (zc zC.out 4).trans rfl
                          have zZe := zb zC.out 0
                          have zaf := zb zC.out 1
                          have zbf := zb zC.out 2
                          have zcf := zb zC.out 3
                          have zdf := zb zC.out 4
                          go_wp2
                          refine bodyPost_ret (results_cell_row rfl _ _ zD 66 #[.int .i64 0, .slice none 0 0, .bool false, .string (⟨#[]⟩ : ByteArray), .slice none 0 0] (0, 0) _ rfl (bfin (by (repeat (first | (with_reducible first | refine zf ?_ _ | refine zj ?_ | refine ze ?_ _) | apply zA)); exact zC.out) (by rfl)) Tryd.underlying66 rfl (by kernel_rfl)) rfl ?_
                          exact ⟨_, _, by first | rfl | (simp [*] <;> rfl), by first | exact Kd.R_nil _ _ _ _ _ | exact Kd.N_nil _ _ _ _ _ | exact Kd.V_nil _ _ _ _ _ | exact Kd.Q_nil _ _ _ _ _ | exact Kd.S_nil _ _ _ _ _, by first | exact Kd.R_nil _ _ _ _ _ | exact Kd.N_nil _ _ _ _ _ | exact Kd.V_nil _ _ _ _ _ | exact Kd.Q_nil _ _ _ _ _ | exact Kd.S_nil _ _ _ _ _, by repeat (first | (with_reducible first | exact HB.out | apply zh | apply zd | apply zi | refine zl ?_ zK.out | refine zl ?_ zM.out) | exact HB.out)⟩
                        ·rw [if_neg c114] at H
                         have c114b0 : ((rdOf ByteArray.empty t192 0).toList == ([114, 111, 116] : List UInt8)) = false := beq_eq_false_iff_ne.mpr c114
                         have c114b1 : ((rdOf ByteArray.empty t192 0).toList != ([114, 111, 116] : List UInt8)) = true := bne_iff_ne.mpr c114
                         simp only [Option.some.injEq, Prod.mk.injEq] at H
                         obtain ⟨rfl, rfl, rfl, rfl, rfl⟩ := H
                         have p233 : 0 ≤ (0 : Int) := (by omega)
                         have q233 : 0 < (t192.length : Int) := of_decide_eq_true (by with_reducible assumption)
                         obtain ⟨ad233, e233, hx233_0⟩ := Kd.at_string (Kd.R_reads' zI.out).2.2 0 p233 q233
                         obtain rfl : ad195 = ad233 := (by injection e233)
                         have qi233 : (0 < t192.length) = True := eq_true (by omega)
                         (try rw [show ((0 : Int)).toNat = 0 from rfl] at hx233_0)
                         (try rw [Addr.add_zero'] at hx233_0)
                         replace p233 := eq_true p233
                         replace q233 := eq_true q233
                         have p234 : 0 ≤ (0 : Int) := (by omega)
                         have q234 : 0 < (t192.length : Int) := of_decide_eq_true (by with_reducible assumption)
                         obtain ⟨ad234, e234, hx234_0⟩ := Kd.at_string (Kd.R_reads' zI.out).2.2 0 p234 q234
                         obtain rfl : ad195 = ad234 := (by injection e234)
                         have qi234 : (0 < t192.length) = True := eq_true (by omega)
                         (try rw [show ((0 : Int)).toNat = 0 from rfl] at hx234_0)
                         (try rw [Addr.add_zero'] at hx234_0)
                         replace p234 := eq_true p234
                         replace q234 := eq_true q234
                         have zMf := zF.out
                         have zNf := zL.out
                         have zef : wc.cell? ⟨zD, 0, none⟩ = some (.int .i64 x192000_41) := (zc zC.out 0).trans rfl
                         have zff : wc.cell? ⟨zD, 1, none⟩ = some (.slice none 0 0) := (zc zC.out 1).trans rfl
                         have zgf : wc.cell? ⟨zD, 2, none⟩ = some (.bool x192002_41) := (zc zC.out 2).trans rfl
                         have zhf : wc.cell? ⟨zD, 3, none⟩ = some (.string x192003_41) := (zc zC.out 3).trans rfl
                         have zif : wc.cell? ⟨zD, 4, none⟩ = some (.slice none 0 0) := (zc zC.out 4).trans rfl
                         have zjf := zb zC.out 0
                         have zkf := zb zC.out 1
                         have zlf := zb zC.out 2
                         have zmf := zb zC.out 3
                         have znf := zb zC.out 4
                         go_wp2
                         refine bodyPost_ret (results_cell_row rfl _ _ zD 66 #[.int .i64 0, .slice none 0 0, .bool false, .string (⟨#[]⟩ : ByteArray), .slice none 0 0] (0, 0) _ rfl (bfin (by (repeat (first | (with_reducible first | refine zf ?_ _ | refine zj ?_ | refine ze ?_ _) | apply zA)); exact zC.out) (by rfl)) Tryd.underlying66 rfl (by kernel_rfl)) rfl ?_
                         exact ⟨_, _, by first | rfl | (simp [*] <;> rfl), by first | exact Kd.R_nil _ _ _ _ _ | exact Kd.N_nil _ _ _ _ _ | exact Kd.V_nil _ _ _ _ _ | exact Kd.Q_nil _ _ _ _ _ | exact Kd.S_nil _ _ _ _ _, by first | exact Kd.R_nil _ _ _ _ _ | exact Kd.N_nil _ _ _ _ _ | exact Kd.V_nil _ _ _ _ _ | exact Kd.Q_nil _ _ _ _ _ | exact Kd.S_nil _ _ _ _ _, by repeat (first | (with_reducible first | exact HB.out | apply zh | apply zd | apply zi | refine zl ?_ zK.out | refine zl ?_ zM.out) | exact HB.out)⟩
                      ·rw [if_neg c109] at H
                       exact absurd H (by simp)
               ·replace c82 := Bool.eq_false_iff.mpr c82
                subst c82
                rw [if_neg (show ¬ (false = true) by decide)] at H
                simp only [Option.some.injEq, Prod.mk.injEq] at H
                obtain ⟨rfl, rfl, rfl, rfl, rfl⟩ := H
                have q142 : (1 : Int) ≤ ((t192.length : Int) : Int) := of_decide_eq_true (by with_reducible assumption)
                obtain ⟨i0142, hi0142, _, hsz142, _⟩ := info_parts info9
                have hroom142 : t192.length ≤ co45 := (Kd.R_reads' zI.out).2.1
                have hC142 : Kd.C Kd.string _ (some ad195) t192.length t192 := (Kd.R_reads' zI.out).2.2
                have hcut142 := cut_from (P := Tryd.prog) 119 9 .i64 Tryd.underlying119 hi0142 1 hsz142 (some ad195) t192.length co45 1 (by omega) q142
                have hr142 := Kd.C_drop (m := (1 : Int).toNat) (c := co45) hC142 (by omega) hroom142
                obtain ⟨A142, hA142⟩ : ∃ A1, A1 = (if co45 = (1 : Int).toNat then (some ad195) else ((some ad195) : Option Addr).map (·.add ((1 : Int).toNat * 1))) := ⟨_, rfl⟩
                obtain ⟨c142, hc142⟩ : ∃ c1, c1 = co45 - (1 : Int).toNat := ⟨_, rfl⟩
                have hy142 : y219.length = t192.length - (1 : Int).toNat := (by rw [Ny219.out, List.length_drop] <;> omega)
                rw [show (t192).drop (1 : Int).toNat = y219 from Ny219.out.symm] at hr142
                replace hr142 : Kd.C Kd.string _ A142 y219.length y219 := (by rw [hA142]; exact hr142)
                rw [← hy142, ← hA142, ← hc142] at hcut142
                have HR222 := Aside0.mk hr142
                have HC222 := Aside0.mk (show y219.length ≤ c142 from by rw [hy142, hc142]; exact Nat.sub_le_sub_right hroom142 _)
                clear hr142 hC142 hroom142 hi0142 hsz142 hc142
                have KY142 := Aside0.mk hy142
                have KA142 := Aside0.mk hA142
                clear hy142 hA142
                have KL142 := Aside0.mk (show 1 ≤ t192.length from by omega)
                replace q142 := eq_true q142
                go_wp2_with (first | ((with_reducible refine zo (f := 75) rfl ?_); refine zy (some 95) rfl rfl Tryd.func75 (by kernel_rfl) rfl #[.slice A142 y219.length c142] rfl (by (try simp only [List.map_toArray, List.map_cons, List.map_nil]); first | done | rfl) ?_; (with_reducible refine (spec_l6Nums.calls kj72 _ _ y219 t223 false _ ?side1 ?side2 A81.out).mono ?_); (case side1 => repeat (first | exact (by repeat (first | (with_reducible exact HR222.out) | (with_reducible refine Kd.C_alloc ?_ _) | (with_reducible refine Kd.C_drewN ?_ _) | (with_reducible refine Kd.C_drew ?_) | exact HR222.out)) | (with_reducible refine Kd.C_alloc ?_ _) | (with_reducible refine Kd.C_drewN ?_ _) | (with_reducible refine Kd.C_drew ?_))); (case side2 => exact HC222.out); rintro e w143 ⟨v225, rfl, zN, hb⟩; refine ⟨_, rfl, ?_⟩; have n0_ := Aside0.mk (Kd.R_below (RL zI.out) hb); have n1_ := Aside0.mk (Kd.R_lower zN (zn (by exact bl HB.out))); have n2_ := Aside0.mk (zp (g := zD) (o := .cells #[.int .i64 x192000_41, .slice none 0 0, .bool x192002_41, .string x192003_41, .slice none 0 0] 66 (0, 0)) (BL zC.out) hb); have n3_ := Aside0.mk (zp (g := zE) (o := .cells #[.int .i64 t204, .string t205, .string t206, .int .i64 t207, .bool t208] 124 (0, 0)) (BL zG.out) hb); have n4_ := Aside0.mk (Kd.C_below (by repeat (first | (with_reducible exact HR222.out) | (with_reducible refine Kd.C_alloc ?_ _) | (with_reducible refine Kd.C_drewN ?_ _) | (with_reducible refine Kd.C_drew ?_) | exact HR222.out)) hb); have n5_ := Aside0.mk (zm (by exact bl HB.out) hb); clear zI; clear zC; clear zG; clear HR222; clear HB; have zI := n0_; have zUc := n1_; have zC := n2_; have zG := n3_; have HR222 := n4_; have HB := n5_; clear n0_ n1_ n2_ n3_ n4_ n5_; (try clear hb); (try clear hb2); (try clear hk); (try clear hi); (try clear zN); have zOf := zF.out; have zPf := zL.out; have zof : w143.cell? ⟨zD, 0, none⟩ = some (.int .i64 x192000_41) := (zc zC.out 0).trans rfl; have zpf : w143.cell? ⟨zD, 1, none⟩ = some (.slice none 0 0) := (zc zC.out 1).trans rfl; have zqf : w143.cell? ⟨zD, 2, none⟩ = some (.bool x192002_41) := (zc zC.out 2).trans rfl; have zrf : w143.cell? ⟨zD, 3, none⟩ = some (.string x192003_41) := (zc zC.out 3).trans rfl; have zsf : w143.cell? ⟨zD, 4, none⟩ = some (.slice none 0 0) := (zc zC.out 4).trans rfl; have ztf := zb zC.out 0; have zuf := zb zC.out 1; have zvf := zb zC.out 2; have zwf := zb zC.out 3; have zxf := zb zC.out 4))
                refine bodyPost_ret (results_cell_row rfl _ _ zD 66 #[.int .i64 0, .slice none 0 0, .bool false, .string (⟨#[]⟩ : ByteArray), .slice none 0 0] (0, 0) _ rfl (bfin (by (repeat (first | (with_reducible first | refine zf ?_ _ | refine zj ?_ | refine ze ?_ _) | apply zA)); exact zC.out) (by rfl)) Tryd.underlying66 rfl (by kernel_rfl)) rfl ?_
                exact ⟨_, _, by first | rfl | (simp [*] <;> rfl), by first | exact Kd.R_nil _ _ _ _ _ | exact Kd.N_nil _ _ _ _ _ | exact Kd.V_nil _ _ _ _ _ | exact Kd.Q_nil _ _ _ _ _ | exact Kd.S_nil _ _ _ _ _, by first | exact Kd.R_nil _ _ _ _ _ | exact Kd.N_nil _ _ _ _ _ | exact Kd.V_nil _ _ _ _ _ | exact Kd.Q_nil _ _ _ _ _ | exact Kd.S_nil _ _ _ _ _, by repeat (first | (with_reducible first | exact HB.out | apply zh | apply zd | apply zi | refine zl ?_ zK.out | refine zl ?_ zM.out) | exact HB.out)⟩
              ·rw [if_neg c80] at H
               exact absurd H (by simp)
   ·rw [if_neg c11] at H
    exact absurd H (by simp)

end Go.Proofs.YtfiojiokmkiflaaDoor.GFnExactParseLine
