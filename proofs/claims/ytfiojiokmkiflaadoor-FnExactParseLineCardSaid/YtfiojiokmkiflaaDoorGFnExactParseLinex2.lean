/- Written by give.py, a program of this session, that runs the kit's print and lays contracts proved by hand beside it. -/
import Derived.Test.YtfiojiokmkiflaaDoorGFnExactParseLinex0
import Derived.Test.YtfiojiokmkiflaaDoorHStep
import Derived.Test.YtfiojiokmkiflaaDoorGFnExactParseLinex1
namespace Go.Proofs.YtfiojiokmkiflaaDoor.GFnExactParseLine
open Go.Proofs.YtfiojiokmkiflaaDoorH (pu po ta pt ps p0 p1 bfin)
open Go.RowKit Go.Proofs.YtfiojiokmkiflaaDoorW.PrintWords Go.Proofs.YtfiojiokmkiflaaDoorW.PrintLast Go.Proofs.YtfiojiokmkiflaaDoorW.PrintMore
attribute [local go_sem] max2_int min2_int max_two min_two max_three min_three max_four min_four
attribute [local go_sem high] Go.Proofs.YtfiojiokmkiflaaDoorH.str_leq Go.Proofs.YtfiojiokmkiflaaDoorH.str_geq Go.Proofs.YtfiojiokmkiflaaDoorH.str_gtr   -- for this text's walks alone
set_option linter.unusedVariables false
set_option linter.unusedSimpArgs false

mutual
def spec_l6Op.l0 : Nat → List ByteArray → Int → Option (Int × ByteArray × ByteArray × Int × Bool × Bool)
 | 0, _, _ => none
 | k + 1, x0, x4 => if x4 < (x0.length : Int) then (if 0 ≤ x4 then (if (rdOf ByteArray.empty x0 x4).toList = ([59] : List UInt8) then (some (0, (⟨#[]⟩ : ByteArray), (⟨#[]⟩ : ByteArray), 0, false, false)) else (spec_l6Op.l0 k x0 (wrap64 (x4 + 1)))) else (none)) else (if (x0.length : Int) = 3 then (if 0 < (x0.length : Int) then (spec_l6Op.j1 k x0 ((rdOf ByteArray.empty x0 0).toList == ([99, 114, 101, 97, 116, 101] : List UInt8))) else (none)) else (spec_l6Op.j1 k x0 false))
def spec_l6Op.j1 : Nat → List ByteArray → Bool → Option (Int × ByteArray × ByteArray × Int × Bool × Bool)
 | 0, _, _ => none
 | k + 1, x0, x30 => if x30 = true then (if 1 < (x0.length : Int) then (if 2 < (x0.length : Int) then ((spec_l6Data.f (rdOf ByteArray.empty x0 2)).bind fun t136 => (some (1, rdOf ByteArray.empty x0 1, t136, 0, false, true))) else (none)) else (none)) else (if (x0.length : Int) = 3 then (if 0 < (x0.length : Int) then (spec_l6Op.j2 k x0 ((rdOf ByteArray.empty x0 0).toList == ([115, 101, 113] : List UInt8))) else (none)) else (spec_l6Op.j2 k x0 false))
def spec_l6Op.j2 : Nat → List ByteArray → Bool → Option (Int × ByteArray × ByteArray × Int × Bool × Bool)
 | 0, _, _ => none
 | k + 1, x0, x47 => if x47 = true then (if 1 < (x0.length : Int) then (if 2 < (x0.length : Int) then ((spec_l6Data.f (rdOf ByteArray.empty x0 2)).bind fun t140 => (some (1, rdOf ByteArray.empty x0 1, t140, 0, true, true))) else (none)) else (none)) else (if (x0.length : Int) = 4 then (if 0 < (x0.length : Int) then (spec_l6Op.j3 k x0 ((rdOf ByteArray.empty x0 0).toList == ([115, 101, 116] : List UInt8))) else (none)) else (spec_l6Op.j3 k x0 false))
def spec_l6Op.j3 : Nat → List ByteArray → Bool → Option (Int × ByteArray × ByteArray × Int × Bool × Bool)
 | 0, _, _ => none
 | k + 1, x0, x64 => if x64 = true then (if 3 < (x0.length : Int) then ((spec_l6Number.f k (rdOf ByteArray.empty x0 3)).bind fun bt143 => (if 1 < (x0.length : Int) then (if 2 < (x0.length : Int) then ((spec_l6Data.f (rdOf ByteArray.empty x0 2)).bind fun t147 => (some (3, rdOf ByteArray.empty x0 1, t147, bt143.1, false, bt143.2))) else (none)) else (none))) else (none)) else (if (x0.length : Int) = 3 then (if 0 < (x0.length : Int) then (if (rdOf ByteArray.empty x0 0).toList = ([100, 101, 108, 101, 116, 101] : List UInt8) then (spec_l6Op.j4 k x0 true) else (spec_l6Op.j4 k x0 ((rdOf ByteArray.empty x0 0).toList == ([99, 104, 101, 99, 107] : List UInt8)))) else (none)) else (spec_l6Op.j4 k x0 false))
def spec_l6Op.j4 : Nat → List ByteArray → Bool → Option (Int × ByteArray × ByteArray × Int × Bool × Bool)
 | 0, _, _ => none
 | k + 1, x0, x96 => if x96 = true then (if 2 < (x0.length : Int) then ((spec_l6Number.f k (rdOf ByteArray.empty x0 2)).bind fun bt151 => (if 0 < (x0.length : Int) then (if (rdOf ByteArray.empty x0 0).toList = ([99, 104, 101, 99, 107] : List UInt8) then (if 1 < (x0.length : Int) then (some (4, rdOf ByteArray.empty x0 1, (⟨#[]⟩ : ByteArray), bt151.1, false, bt151.2)) else (none)) else (if 1 < (x0.length : Int) then (some (2, rdOf ByteArray.empty x0 1, (⟨#[]⟩ : ByteArray), bt151.1, false, bt151.2)) else (none))) else (none))) else (none)) else (some (0, (⟨#[]⟩ : ByteArray), (⟨#[]⟩ : ByteArray), 0, false, false))
end
def spec_l6Op.f (k : Nat) (l0 : List ByteArray) : Option (Int × ByteArray × ByteArray × Int × Bool × Bool) := spec_l6Op.l0 k l0 0
theorem spec_l6Op.mono_l : ∀ k, (∀ y0 y1, LeO (spec_l6Op.l0 k y0 y1) (spec_l6Op.l0 (k + 1) y0 y1)) ∧ (∀ y0 y1, LeO (spec_l6Op.j1 k y0 y1) (spec_l6Op.j1 (k + 1) y0 y1)) ∧ (∀ y0 y1, LeO (spec_l6Op.j2 k y0 y1) (spec_l6Op.j2 (k + 1) y0 y1)) ∧ (∀ y0 y1, LeO (spec_l6Op.j3 k y0 y1) (spec_l6Op.j3 (k + 1) y0 y1)) ∧ (∀ y0 y1, LeO (spec_l6Op.j4 k y0 y1) (spec_l6Op.j4 (k + 1) y0 y1))
 | 0 => ⟨fun _ _ r h => by simp [spec_l6Op.l0] at h, fun _ _ r h => by simp [spec_l6Op.j1] at h, fun _ _ r h => by simp [spec_l6Op.j2] at h, fun _ _ r h => by simp [spec_l6Op.j3] at h, fun _ _ r h => by simp [spec_l6Op.j4] at h⟩
 | k + 1 => by
  obtain ⟨ih0, ih1, ih2, ih3, ih4⟩ := spec_l6Op.mono_l k
  refine ⟨?_, ?_, ?_, ?_, ?_⟩
  ·intro y0 y1
   unfold spec_l6Op.l0
   repeat' first
   | (with_reducible exact ih0 _ _)
   | (with_reducible exact ih1 _ _)
   | (with_reducible exact ih2 _ _)
   | (with_reducible exact ih3 _ _)
   | (with_reducible exact ih4 _ _)
   | (with_reducible exact spec_l6Number.mono _ _)
   | (with_reducible exact LeO.refl _)
   | (with_reducible exact LeO.none _)
   | (with_reducible refine LeO.ite ?_ ?_)
   | (with_reducible refine LeO.bind ?_ (fun _ => ?_))
   | exact ih0 _ _
   | exact ih1 _ _
   | exact ih2 _ _
   | exact ih3 _ _
   | exact ih4 _ _
   | exact spec_l6Number.mono _ _
   | exact LeO.none _
   | refine LeO.ite ?_ ?_
   | refine LeO.bind ?_ (fun _ => ?_)
  ·intro y0 y1
   unfold spec_l6Op.j1
   repeat' first
   | (with_reducible exact ih0 _ _)
   | (with_reducible exact ih1 _ _)
   | (with_reducible exact ih2 _ _)
   | (with_reducible exact ih3 _ _)
   | (with_reducible exact ih4 _ _)
   | (with_reducible exact spec_l6Number.mono _ _)
   | (with_reducible exact LeO.refl _)
   | (with_reducible exact LeO.none _)
   | (with_reducible refine LeO.ite ?_ ?_)
   | (with_reducible refine LeO.bind ?_ (fun _ => ?_))
   | exact ih0 _ _
   | exact ih1 _ _
   | exact ih2 _ _
   | exact ih3 _ _
   | exact ih4 _ _
   | exact spec_l6Number.mono _ _
   | exact LeO.none _
   | refine LeO.ite ?_ ?_
   | refine LeO.bind ?_ (fun _ => ?_)
  ·intro y0 y1
   unfold spec_l6Op.j2
   repeat' first
   | (with_reducible exact ih0 _ _)
   | (with_reducible exact ih1 _ _)
   | (with_reducible exact ih2 _ _)
   | (with_reducible exact ih3 _ _)
   | (with_reducible exact ih4 _ _)
   | (with_reducible exact spec_l6Number.mono _ _)
   | (with_reducible exact LeO.refl _)
   | (with_reducible exact LeO.none _)
   | (with_reducible refine LeO.ite ?_ ?_)
   | (with_reducible refine LeO.bind ?_ (fun _ => ?_))
   | exact ih0 _ _
   | exact ih1 _ _
   | exact ih2 _ _
   | exact ih3 _ _
   | exact ih4 _ _
   | exact spec_l6Number.mono _ _
   | exact LeO.none _
   | refine LeO.ite ?_ ?_
   | refine LeO.bind ?_ (fun _ => ?_)
  ·intro y0 y1
   unfold spec_l6Op.j3
   repeat' first
   | (with_reducible exact ih0 _ _)
   | (with_reducible exact ih1 _ _)
   | (with_reducible exact ih2 _ _)
   | (with_reducible exact ih3 _ _)
   | (with_reducible exact ih4 _ _)
   | (with_reducible exact spec_l6Number.mono _ _)
   | (with_reducible exact LeO.refl _)
   | (with_reducible exact LeO.none _)
   | (with_reducible refine LeO.ite ?_ ?_)
   | (with_reducible refine LeO.bind ?_ (fun _ => ?_))
   | exact ih0 _ _
   | exact ih1 _ _
   | exact ih2 _ _
   | exact ih3 _ _
   | exact ih4 _ _
   | exact spec_l6Number.mono _ _
   | exact LeO.none _
   | refine LeO.ite ?_ ?_
   | refine LeO.bind ?_ (fun _ => ?_)
  ·intro y0 y1
   unfold spec_l6Op.j4
   repeat' first
   | (with_reducible exact ih0 _ _)
   | (with_reducible exact ih1 _ _)
   | (with_reducible exact ih2 _ _)
   | (with_reducible exact ih3 _ _)
   | (with_reducible exact ih4 _ _)
   | (with_reducible exact spec_l6Number.mono _ _)
   | (with_reducible exact LeO.refl _)
   | (with_reducible exact LeO.none _)
   | (with_reducible refine LeO.ite ?_ ?_)
   | (with_reducible refine LeO.bind ?_ (fun _ => ?_))
   | exact ih0 _ _
   | exact ih1 _ _
   | exact ih2 _ _
   | exact ih3 _ _
   | exact ih4 _ _
   | exact spec_l6Number.mono _ _
   | exact LeO.none _
   | refine LeO.ite ?_ ?_
   | refine LeO.bind ?_ (fun _ => ?_)
theorem spec_l6Op.mono : ∀ a0 k, LeO (spec_l6Op.f k a0) (spec_l6Op.f (k + 1) a0) := by
 intro a0 k
 obtain ⟨ih0, ih1, ih2, ih3, ih4⟩ := spec_l6Op.mono_l k
 unfold spec_l6Op.f
 repeat' first
   | (with_reducible exact ih0 _ _)
   | (with_reducible exact ih1 _ _)
   | (with_reducible exact ih2 _ _)
   | (with_reducible exact ih3 _ _)
   | (with_reducible exact ih4 _ _)
   | (with_reducible exact spec_l6Number.mono _ _)
   | (with_reducible exact LeO.refl _)
   | (with_reducible exact LeO.none _)
   | (with_reducible refine LeO.ite ?_ ?_)
   | (with_reducible refine LeO.bind ?_ (fun _ => ?_))
   | exact ih0 _ _
   | exact ih1 _ _
   | exact ih2 _ _
   | exact ih3 _ _
   | exact ih4 _ _
   | exact spec_l6Number.mono _ _
   | exact LeO.none _
   | refine LeO.ite ?_ ?_
   | refine LeO.bind ?_ (fun _ => ?_)
def spec_l6Op.T7 : Bool × List (List Nat × List Nat) := (true, [([], []), ([0], [0]), ([1], [1]), ([], []), ([3], [3]), ([4], [4]), ([5], [5]), ([2, 6], [2, 6]), ([7, 6, 0, 1, 2, 3, 4, 5, 6, 7], [7]), ([8, 0, 1, 2, 3, 4, 5, 6, 7, 8], [])])
def spec_l6Op.B7 : List Nat := [0, 1, 3, 0, 8, 24, 56, 127, 255, 511]
theorem spec_l6Op.tab7 : rtab .any (opsOf Tryd.f74 7) = spec_l6Op.T7 := by kernel_rfl
theorem spec_l6Op.bits7 : waitsOk spec_l6Op.T7.2 spec_l6Op.B7 = true := by kernel_rfl
def spec_l6Op.T9 : Bool × List (List Nat × List Nat) := (true, [([], []), ([0], [0]), ([1], [1]), ([], []), ([3], [3]), ([4], [4]), ([5], [5]), ([2, 6], [2, 6]), ([7, 6, 0, 1, 2, 3, 4, 5, 6, 7], [7]), ([8, 0, 1, 2, 3, 4, 5, 6, 7, 8], [])])
def spec_l6Op.B9 : List Nat := [0, 1, 3, 0, 8, 24, 56, 127, 255, 511]
theorem spec_l6Op.tab9 : rtab .any (opsOf Tryd.f74 9) = spec_l6Op.T9 := by kernel_rfl
theorem spec_l6Op.bits9 : waitsOk spec_l6Op.T9.2 spec_l6Op.B9 = true := by kernel_rfl
def spec_l6Op.T12 : Bool × List (List Nat × List Nat) := (true, [([], []), ([0], [0]), ([1], [1]), ([], []), ([3], [3]), ([4], [4]), ([5], [5]), ([], []), ([2, 6, 7], [2, 6, 7]), ([], []), ([8, 6, 0, 1, 2, 3, 4, 5, 6, 7, 8], [8]), ([9, 10, 0, 1, 2, 3, 4, 5, 6, 7, 8, 9, 10], [9])])
def spec_l6Op.B12 : List Nat := [0, 1, 3, 0, 8, 24, 56, 0, 255, 0, 511, 2047]
theorem spec_l6Op.tab12 : rtab .any (opsOf Tryd.f74 12) = spec_l6Op.T12 := by kernel_rfl
theorem spec_l6Op.bits12 : waitsOk spec_l6Op.T12.2 spec_l6Op.B12 = true := by kernel_rfl
set_option maxHeartbeats 8000000 in
set_option maxRecDepth 100000 in
theorem spec_l6Op.calls (k : Nat) (A0 : Option Addr) (c0 : Nat) (l0 : List ByteArray) (r1 : Int) (r2 : ByteArray) (r3 : ByteArray) (r4 : Int) (r5 : Bool) (r6 : Bool) (w : World) (hr0 : Kd.C Kd.string w A0 l0.length l0) (hc0 : l0.length ≤ c0) (h : spec_l6Op.f k l0 = some (r1, r2, r3, r4, r5, r6)) :
  Calls Tryd.prog 74 #[.slice A0 l0.length c0] w fun e w' => e = .returned (.tuple #[.agg #[.int .i64 r1, .string r2, .string r3, .int .i64 r4, .bool r5], .bool r6]) ∧ Below w.heap.size w w' := by
 have hu124 := Tryd.underlying124
 have HR0 := Aside0.mk hr0
 have HC0 := Aside0.mk hc0
 clear hr0 hc0
 have HB := Aside0.mk (Below.refl w.heap.size w)
 have H : (spec_l6Op.l0 k l0 0) = some (r1, r2, r3, r4, r5, r6) := h
 clear h
 have H' := Aside0.mk H
 clear H
 go_enter Tryd.func74, Tryd.ntmps74
 go_wp2_with (first | ((with_reducible refine zu (N := 2) rfl ?_); refine zz ?hg (N := 2) ?hd (cs := #[.int .i64 0, .string (⟨#[]⟩ : ByteArray), .string (⟨#[]⟩ : ByteArray), .int .i64 0, .bool false]) (t := 124) ?hr ?_; (case hd => rfl); (case hg => rfl); (case hr => first | (go_simp; done) | (go_simp; rfl)); intro zD hg w2 hbox hb; have n0_ := Aside0.mk (zm (by exact bl HB.out) hb); have n1_ := Aside0.mk (hbox); have n2_ := Aside0.mk ((by rw [hg]; exact (zn (by exact bl HB.out)) : w.heap.size ≤ zD)); have n3_ := Aside0.mk ((by rw [hg]; exact (zn (by exact bl HB.out)) : w.heap.size ≤ zD)); clear HB; have HB := n0_; have zC := n1_; have GW131 := n2_; have zE := n3_; clear n0_ n1_ n2_ n3_; clear hb hbox hg))
 go_loopg [4] k (fun kq v4 w' => ∃ (x4_1 : Int) (x132000_1 : Int) (x132001_1 : ByteArray) (x132002_1 : ByteArray) (x132003_1 : Int) (x132004_1 : Bool), v4 = .int .i64 x4_1 ∧ Aside0 (spec_l6Op.l0 kq l0 x4_1 = some (r1, r2, r3, r4, r5, r6)) ∧ Aside0 (kq ≤ k) ∧ Aside0 (w'.heap[zD]? = some (.cells #[.int .i64 x132000_1, .string x132001_1, .string x132002_1, .int .i64 x132003_1, .bool x132004_1] 124 (0, 0))) ∧ Aside0 (Below w.heap.size w w'))
 case atStart => exact ⟨(0), (0), ((⟨#[]⟩ : ByteArray)), ((⟨#[]⟩ : ByteArray)), (0), (false), (by first | rfl | (simp [*]; done)), H', ⟨Nat.le_refl _⟩, ⟨BL zC.out⟩, ⟨by repeat (first | (with_reducible first | exact HB.out | apply zh | apply zd | apply zi | refine zl ?_ zE.out) | exact HB.out)⟩⟩
 case round =>
  clear H'
  try clear p2
  obtain ⟨x4_1, x132000_1, x132001_1, x132002_1, x132003_1, x132004_1, rfl, HA, HK1, zC, HB⟩ := hrel
  cases gk with
  | zero => exact absurd HA.out (by simp [spec_l6Op.l0])
  | succ k1 =>
   have H := HA.out
   clear HA
   simp only [spec_l6Op.l0] at H
   by_cases c3 : x4_1 < (l0.length : Int)
   ·rw [if_pos c3] at H
    have c3b0 : decide (x4_1 < (l0.length : Int)) = true := decide_eq_true c3
    clear c3
    by_cases c4 : 0 ≤ x4_1
    ·rw [if_pos c4] at H
     have c4b0 : decide (0 ≤ x4_1) = true := decide_eq_true c4
     clear c4
     by_cases c5 : (rdOf ByteArray.empty l0 x4_1).toList = ([59] : List UInt8)
     ·rw [if_pos c5] at H
      have c5b0 : ((rdOf ByteArray.empty l0 x4_1).toList == ([59] : List UInt8)) = true := beq_iff_eq.mpr c5
      have c5b1 : ((rdOf ByteArray.empty l0 x4_1).toList != ([59] : List UInt8)) = false := bne_eq_false_iff_eq.mpr c5
      clear c5
      simp only [Option.some.injEq, Prod.mk.injEq] at H
      obtain ⟨rfl, rfl, rfl, rfl, rfl, rfl⟩ := H
      have p132 : 0 ≤ (x4_1 : Int) := of_decide_eq_true (by with_reducible assumption)
      have q132 : x4_1 < (l0.length : Int) := of_decide_eq_true (by with_reducible assumption)
      obtain ⟨ad132, e132, hx132_0⟩ := Kd.at_string HR0.out x4_1 p132 q132
      cases e132
      replace hx132_0 := zk HB.out hx132_0
      replace p132 := eq_true p132
      replace q132 := eq_true q132
      have zF : wr.cell? ⟨zD, 0, none⟩ = some (.int .i64 x132000_1) := (zc zC.out 0).trans rfl
      have zG : wr.cell? ⟨zD, 1, none⟩ = some (.string x132001_1) := (zc zC.out 1).trans rfl
      have zH : wr.cell? ⟨zD, 2, none⟩ = some (.string x132002_1) := (zc zC.out 2).trans rfl
      have zI : wr.cell? ⟨zD, 3, none⟩ = some (.int .i64 x132003_1) := (zc zC.out 3).trans rfl
      have zJ : wr.cell? ⟨zD, 4, none⟩ = some (.bool x132004_1) := (zc zC.out 4).trans rfl
      have zK := zb zC.out 0
      have zL := zb zC.out 1
      have zM := zb zC.out 2
      have zN := zb zC.out 3
      have zO := zb zC.out 4
      go_wp2
      refine bodyPost_ret (results_ct rfl _ _ zD 124 #[.int .i64 0, .string (⟨#[]⟩ : ByteArray), .string (⟨#[]⟩ : ByteArray), .int .i64 0, .bool false] (0, 0) _ rfl (bfin (by (repeat (first | (with_reducible first | refine zf ?_ _ | refine zj ?_ | refine ze ?_ _) | apply zA)); exact zC.out) (by rfl)) Tryd.underlying124 rfl (by kernel_rfl)) rfl ?_
      exact ⟨by first | rfl | (simp [*] <;> rfl), by repeat (first | (with_reducible first | exact HB.out | apply zh | apply zd | apply zi | refine zl ?_ zE.out) | exact HB.out)⟩
     ·rw [if_neg c5] at H
      have c5b0 : ((rdOf ByteArray.empty l0 x4_1).toList == ([59] : List UInt8)) = false := beq_eq_false_iff_ne.mpr c5
      have c5b1 : ((rdOf ByteArray.empty l0 x4_1).toList != ([59] : List UInt8)) = true := bne_iff_ne.mpr c5
      have H' := Aside0.mk H
      clear H
      have p132 : 0 ≤ (x4_1 : Int) := of_decide_eq_true (by with_reducible assumption)
      have q132 : x4_1 < (l0.length : Int) := of_decide_eq_true (by with_reducible assumption)
      obtain ⟨ad132, e132, hx132_0⟩ := Kd.at_string HR0.out x4_1 p132 q132
      cases e132
      replace hx132_0 := zk HB.out hx132_0
      replace p132 := eq_true p132
      replace q132 := eq_true q132
      go_wp2
      go_roundg k1
      case measure => have := HK1.out; omega
      case rel => exact ⟨(wrap64 (x4_1 + 1)), (x132000_1), (x132001_1), (x132002_1), (x132003_1), (x132004_1), (by first | rfl | (simp [*]; done)), H', ⟨by have := HK1.out; omega⟩, ⟨BL zC.out⟩, ⟨by repeat (first | (with_reducible first | exact HB.out | apply zh | apply zd | apply zi | refine zl ?_ zE.out) | exact HB.out)⟩⟩
    ·rw [if_neg c4] at H
     exact absurd H (by simp)
   ·rw [if_neg c3] at H
    have c3b0 : decide (x4_1 < (l0.length : Int)) = false := decide_eq_false c3
    clear c3
    have HC7 := Aside0.mk H
    clear H
    go_upto_region 6 with (fail)
    go_cut [30] (fun v30 wc => ∃ (kq : Nat) (x30_6 : Bool), v30 = .bool x30_6 ∧ Aside0 (spec_l6Op.j1 kq l0 x30_6 = some (r1, r2, r3, r4, r5, r6)) ∧ Aside0 (kq ≤ k1) ∧ Aside0 (wc.heap[zD]? = some (.cells #[.int .i64 x132000_1, .string x132001_1, .string x132002_1, .int .i64 x132003_1, .bool x132004_1] 124 (0, 0))) ∧ Aside0 (Below w.heap.size w wc))
    case first =>
     have H := HC7.out
     clear HC7
     by_cases c8 : (l0.length : Int) = 3
     ·rw [if_pos c8] at H
      have c8b0 : ((l0.length : Int) == 3) = true := beq_iff_eq.mpr c8
      have c8b1 : ((l0.length : Int) != 3) = false := bne_eq_false_iff_eq.mpr c8
      clear c8
      (first | rw [c8b0] | (simp only [zr, zt]; rw [c8b0]) | skip)
      by_cases c9 : 0 < (l0.length : Int)
      ·rw [if_pos c9] at H
       have c9b0 : decide (0 < (l0.length : Int)) = true := decide_eq_true c9
       have c9b1 : decide (0 < l0.length) = true := decide_eq_true (by omega)
       clear c9
       have H' := Aside0.mk H
       clear H
       have p133 : 0 ≤ (0 : Int) := (by omega)
       have q133 : 0 < (l0.length : Int) := of_decide_eq_true (by with_reducible assumption)
       obtain ⟨ad133, e133, hx133_0⟩ := Kd.at_string HR0.out 0 p133 q133
       cases e133
       have qi133 : (0 < l0.length) = True := eq_true (by omega)
       (try rw [show ((0 : Int)).toNat = 0 from rfl] at hx133_0)
       (try rw [Addr.add_zero'] at hx133_0)
       replace hx133_0 := zk HB.out hx133_0
       replace p133 := eq_true p133
       replace q133 := eq_true q133
       go_wp2
       go_meet
       case rel => exact ⟨_, (((rdOf ByteArray.empty l0 0).toList == ([99, 114, 101, 97, 116, 101] : List UInt8))), (by first | rfl | (simp [*]; done)), H', ⟨by have := HK1.out; first | omega | exact Nat.le_refl _⟩, ⟨BL zC.out⟩, ⟨by repeat (first | (with_reducible first | exact HB.out | apply zh | apply zd | apply zi | refine zl ?_ zE.out) | exact HB.out)⟩⟩
      ·rw [if_neg c9] at H
       exact absurd H (by simp)
     ·rw [if_neg c8] at H
      have c8b0 : ((l0.length : Int) == 3) = false := beq_eq_false_iff_ne.mpr c8
      have c8b1 : ((l0.length : Int) != 3) = true := bne_iff_ne.mpr c8
      (first | rw [c8b0] | (simp only [zr, zt]; rw [c8b0]) | skip)
      have H' := Aside0.mk H
      clear H
      go_wp2
      go_meet
      case rel => exact ⟨_, (false), (by first | rfl | (simp [*]; done)), H', ⟨by have := HK1.out; first | omega | exact Nat.le_refl _⟩, ⟨BL zC.out⟩, ⟨by repeat (first | (with_reducible first | exact HB.out | apply zh | apply zd | apply zi | refine zl ?_ zE.out) | exact HB.out)⟩⟩
    case rest =>
     clear HC7
     try clear p1
     try clear q1
     try clear hx1
     try clear qi1
     try clear p2
     try clear c3
     try clear c3b0
     try clear c4
     try clear c4b0
     try clear c5
     try clear c5b0
     try clear c5b1
     try clear p6
     try clear c7
     try clear c8
     try clear c8b0
     try clear c8b1
     try clear c9
     try clear c9b0
     try clear c9b1
     try clear zF
     try clear zG
     try clear zH
     try clear zI
     try clear zJ
     try clear zK
     try clear zL
     try clear zM
     try clear zN
     try clear zO
     try clear hx132_0
     try clear hx133_0
     try clear p132
     try clear p133
     try clear p2
     try clear q132
     try clear q133
     obtain ⟨kq, x30_6, rfl, HA, HJ6, zC, HB⟩ := hcut
     cases kq with
     | zero => exact absurd HA.out (by simp [spec_l6Op.j1])
     | succ kj6 =>
      have H := HA.out
      clear HA
      simp only [spec_l6Op.j1] at H
      by_cases c10 : x30_6 = true
      ·subst c10
       rw [if_pos rfl] at H
       by_cases c11 : 1 < (l0.length : Int)
       ·rw [if_pos c11] at H
        have c11b0 : decide (1 < (l0.length : Int)) = true := decide_eq_true c11
        have c11b1 : decide (1 < l0.length) = true := decide_eq_true (by omega)
        clear c11
        by_cases c12 : 2 < (l0.length : Int)
        ·rw [if_pos c12] at H
         have c12b0 : decide (2 < (l0.length : Int)) = true := decide_eq_true c12
         have c12b1 : decide (2 < l0.length) = true := decide_eq_true (by omega)
         clear c12
         replace H := Option.bind_eq_some_iff.mp H
         obtain ⟨t136, A130, H⟩ := H
         try dsimp only at H
         have A13 := Aside0.mk A130
         clear A130
         simp only [Option.some.injEq, Prod.mk.injEq] at H
         obtain ⟨rfl, rfl, rfl, rfl, rfl, rfl⟩ := H
         try go_wp2
         have n0_ := Aside0.mk (zj zC.out)
         have n1_ := Aside0.mk (zi HB.out)
         clear zC
         clear HB
         have zC := n0_
         have HB := n1_
         clear n0_ n1_
         have p134 : 0 ≤ (1 : Int) := (by omega)
         have q134 : 1 < (l0.length : Int) := of_decide_eq_true (by with_reducible assumption)
         obtain ⟨ad134, e134, hx134_0⟩ := Kd.at_string HR0.out 1 p134 q134
         have hw134_0 := hx134_0
         (try rw [show ((1 : Int)).toNat = 1 from rfl] at hw134_0)
         (try rw [show 1 * 1 = 1 from rfl] at hw134_0)
         (try simp only [Nat.reduceMul, Nat.reduceEqDiff, Go.Addr.add, ↓reduceIte] at hw134_0)
         cases e134
         (try simp only [show (1 : Int).toNat = 1 from rfl, Nat.reduceMul, Nat.reduceEqDiff, Go.Addr.add, ↓reduceIte] at hx134_0)
         have qi134 : (1 < l0.length) = True := eq_true (by omega)
         (try rw [show ((1 : Int)).toNat = 1 from rfl] at hx134_0)
         replace hx134_0 := zk HB.out hx134_0
         replace p134 := eq_true p134
         replace q134 := eq_true q134
         have p135 : 0 ≤ (2 : Int) := (by omega)
         have q135 : 2 < (l0.length : Int) := of_decide_eq_true (by with_reducible assumption)
         obtain ⟨ad135, e135, hx135_0⟩ := Kd.at_string HR0.out 2 p135 q135
         have hw135_0 := hx135_0
         (try rw [show ((2 : Int)).toNat = 2 from rfl] at hw135_0)
         (try rw [show 2 * 1 = 2 from rfl] at hw135_0)
         (try simp only [Nat.reduceMul, Nat.reduceEqDiff, Go.Addr.add, ↓reduceIte] at hw135_0)
         obtain rfl : ad134 = ad135 := (by injection e135)
         (try simp only [show (2 : Int).toNat = 2 from rfl, Nat.reduceMul, Nat.reduceEqDiff, Go.Addr.add, ↓reduceIte] at hx135_0)
         have qi135 : (2 < l0.length) = True := eq_true (by omega)
         (try rw [show ((2 : Int)).toNat = 2 from rfl] at hx135_0)
         replace hx135_0 := zk HB.out hx135_0
         replace p135 := eq_true p135
         replace q135 := eq_true q135
         refine start_ (n := 10) (S := fun w' => w'.cell? ⟨ad134.block, ad134.off + 1, none⟩ = some (.string (rdOf ByteArray.empty l0 1)) ∧ w'.cell? ⟨ad134.block, ad134.off + 2, none⟩ = some (.string (rdOf ByteArray.empty l0 2))) (ds := []) #[false, false, false, false, false, false, false, false, false, false] (by kernel_rfl) rfl rfl ⟨(zk HB.out hw134_0), (zk HB.out hw135_0)⟩ (fun hHeld => ?_); refine with_tabW spec_l6Op.tab7 spec_l6Op.bits7 (fun HT_ HW_ => ?_)
         generalize wc.drew = w14 at zC HB hx134_0 hx135_0 hHeld ⊢
         refine pu 0 31 rfl rfl (any_of HT_.out (by kernel_rfl)) (fun _ _ _ _ h => h) (by rfl) ⟨_, _, fun w' => by go_simp; rfl, by simp only [pt, ps, p0, p1, zr, zt]; rfl, ?_⟩
         refine pu 1 32 rfl rfl (any_of HT_.out (by kernel_rfl)) (fun _ _ _ _ h => h) (by rfl) ⟨_, _, fun w' => by go_simp; rfl, by simp only [pt, ps, p0, p1, zr, zt]; rfl, ?_⟩
         refine pu 3 34 rfl rfl (any_of HT_.out (by kernel_rfl)) (fun _ _ _ _ h => h) (by rfl) ⟨_, _, fun w' => by go_simp; rfl, by simp only [pt, ps, p0, p1, zr, zt]; rfl, ?_⟩
         refine pu 4 35 rfl rfl (any_of HT_.out (by kernel_rfl)) (fun _ _ _ _ h => h) (by rfl) ⟨_, _, fun w' => by go_simp; rfl, by simp only [pt, ps, p0, p1, zr, zt]; rfl, ?_⟩
         refine ta 2 33 rfl rfl (take_ofW HT_.out HW_.out (by kernel_rfl)) (fun _ _ _ _ h => h) (by rfl) hHeld ⟨_, _, by rintro w' ⟨s0, s1⟩; go_simp; rfl, by simp only [pt, ps, p0, p1, zr, zt]; rfl, ?_⟩
         refine ta 5 36 rfl rfl (take_ofW HT_.out HW_.out (by kernel_rfl)) (fun _ _ _ _ h => h) (by rfl) hHeld ⟨_, _, by rintro w' ⟨s0, s1⟩; go_simp; rfl, by simp only [pt, ps, p0, p1, zr, zt]; rfl, ?_⟩
         refine one_ (i := 6) (N := some 37) #[true, true, true, true, true, true, true, false, false, false] rfl rfl (one_of HT_.out (by kernel_rfl)) (by decide) (fun K hK => ?_)
         refine goes_ Tryd.func112 (by kernel_rfl) rfl #[.string (rdOf ByteArray.empty l0 2)] (by rfl) rfl rfl (by (try simp only [List.map_toArray, List.map_cons, List.map_nil]); first | done | rfl) ?_
         with_reducible refine (spec_l6Data.calls (rdOf ByteArray.empty l0 2) t136 _ A13.out).mono ?_
         rintro e w' ⟨rfl, ⟨nd, rfl⟩⟩
         refine ⟨_, rfl, ?_⟩
         refine hK.out _ _ ⟨(zk HB.out hw134_0), (zk HB.out hw135_0)⟩ (fun hHeld => ?_)
         clear hK K
         refine norm_ (a' := ?_) ?_ ?_
         rotate_left
         ·show Act.put _ (some 37) _ = _
          simp only [pt, ps, p0, p1, zr, zt]
          rfl
         refine pu 7 38 rfl rfl (any_of HT_.out (by kernel_rfl)) (fun _ _ _ _ h => h) (by rfl) ⟨_, _, fun w' => by go_simp; rfl, by simp only [pt, ps, p0, p1, zr, zt]; rfl, ?_⟩
         refine one_ (i := 8) (N := none) #[true, true, true, true, true, true, true, true, true, false] rfl rfl (one_of HT_.out (by kernel_rfl)) (by decide) (fun K hK => ?_)
         have hs15 : w14.cell? ⟨zD, 0, none⟩ = some (.int .i64 x132000_1) := (zc zC.out 0).trans rfl
         have hfs15 := zb zC.out 0
         have hs16 : w14.cell? ⟨zD, 1, none⟩ = some (.string x132001_1) := (zc zC.out 1).trans rfl
         have hfs16 := zb zC.out 1
         have hs17 : w14.cell? ⟨zD, 2, none⟩ = some (.string x132002_1) := (zc zC.out 2).trans rfl
         have hfs17 := zb zC.out 2
         have hs18 : w14.cell? ⟨zD, 3, none⟩ = some (.int .i64 x132003_1) := (zc zC.out 3).trans rfl
         have hfs18 := zb zC.out 3
         have hs19 : w14.cell? ⟨zD, 4, none⟩ = some (.bool x132004_1) := (zc zC.out 4).trans rfl
         have hfs19 := zb zC.out 4
         refine skip_ (w1 := ?_) (by rfl) rfl ?_ ?_
         rotate_left
         ·go_simp
          rfl
         refine hK.out _ _ ⟨((zw (p := ⟨zD, _, none⟩) (by first | exact Nat.ne_of_lt (Nat.lt_of_lt_of_le (by have := World.block_lt_of_cell? _ _ hw134_0; first | rwa [zg] at this | exact this) GW131.out) | (rw [zg]; exact Nat.ne_of_lt (Nat.lt_of_lt_of_le (by have := World.block_lt_of_cell? _ _ hw134_0; first | rwa [zg] at this | exact this) GW131.out)) | (show (Addr.add _ _).block ≠ _; rw [zg]; exact Nat.ne_of_lt (Nat.lt_of_lt_of_le (by have := World.block_lt_of_cell? _ _ hw134_0; first | rwa [zg] at this | exact this) GW131.out)) | (dsimp only; exact Nat.ne_of_lt (Nat.lt_of_lt_of_le (by have := World.block_lt_of_cell? _ _ hw134_0; first | rwa [zg] at this | exact this) GW131.out))) _).trans (((zw (p := ⟨zD, _, none⟩) (by first | exact Nat.ne_of_lt (Nat.lt_of_lt_of_le (by have := World.block_lt_of_cell? _ _ hw134_0; first | rwa [zg] at this | exact this) GW131.out) | (rw [zg]; exact Nat.ne_of_lt (Nat.lt_of_lt_of_le (by have := World.block_lt_of_cell? _ _ hw134_0; first | rwa [zg] at this | exact this) GW131.out)) | (show (Addr.add _ _).block ≠ _; rw [zg]; exact Nat.ne_of_lt (Nat.lt_of_lt_of_le (by have := World.block_lt_of_cell? _ _ hw134_0; first | rwa [zg] at this | exact this) GW131.out)) | (dsimp only; exact Nat.ne_of_lt (Nat.lt_of_lt_of_le (by have := World.block_lt_of_cell? _ _ hw134_0; first | rwa [zg] at this | exact this) GW131.out))) _).trans (((zw (p := ⟨zD, _, none⟩) (by first | exact Nat.ne_of_lt (Nat.lt_of_lt_of_le (by have := World.block_lt_of_cell? _ _ hw134_0; first | rwa [zg] at this | exact this) GW131.out) | (rw [zg]; exact Nat.ne_of_lt (Nat.lt_of_lt_of_le (by have := World.block_lt_of_cell? _ _ hw134_0; first | rwa [zg] at this | exact this) GW131.out)) | (show (Addr.add _ _).block ≠ _; rw [zg]; exact Nat.ne_of_lt (Nat.lt_of_lt_of_le (by have := World.block_lt_of_cell? _ _ hw134_0; first | rwa [zg] at this | exact this) GW131.out)) | (dsimp only; exact Nat.ne_of_lt (Nat.lt_of_lt_of_le (by have := World.block_lt_of_cell? _ _ hw134_0; first | rwa [zg] at this | exact this) GW131.out))) _).trans (((zw (p := ⟨zD, _, none⟩) (by first | exact Nat.ne_of_lt (Nat.lt_of_lt_of_le (by have := World.block_lt_of_cell? _ _ hw134_0; first | rwa [zg] at this | exact this) GW131.out) | (rw [zg]; exact Nat.ne_of_lt (Nat.lt_of_lt_of_le (by have := World.block_lt_of_cell? _ _ hw134_0; first | rwa [zg] at this | exact this) GW131.out)) | (show (Addr.add _ _).block ≠ _; rw [zg]; exact Nat.ne_of_lt (Nat.lt_of_lt_of_le (by have := World.block_lt_of_cell? _ _ hw134_0; first | rwa [zg] at this | exact this) GW131.out)) | (dsimp only; exact Nat.ne_of_lt (Nat.lt_of_lt_of_le (by have := World.block_lt_of_cell? _ _ hw134_0; first | rwa [zg] at this | exact this) GW131.out))) _).trans (((zw (p := ⟨zD, _, none⟩) (by first | exact Nat.ne_of_lt (Nat.lt_of_lt_of_le (by have := World.block_lt_of_cell? _ _ hw134_0; first | rwa [zg] at this | exact this) GW131.out) | (rw [zg]; exact Nat.ne_of_lt (Nat.lt_of_lt_of_le (by have := World.block_lt_of_cell? _ _ hw134_0; first | rwa [zg] at this | exact this) GW131.out)) | (show (Addr.add _ _).block ≠ _; rw [zg]; exact Nat.ne_of_lt (Nat.lt_of_lt_of_le (by have := World.block_lt_of_cell? _ _ hw134_0; first | rwa [zg] at this | exact this) GW131.out)) | (dsimp only; exact Nat.ne_of_lt (Nat.lt_of_lt_of_le (by have := World.block_lt_of_cell? _ _ hw134_0; first | rwa [zg] at this | exact this) GW131.out))) _).trans (hHeld.1)))))))))), ((zw (p := ⟨zD, _, none⟩) (by first | exact Nat.ne_of_lt (Nat.lt_of_lt_of_le (by have := World.block_lt_of_cell? _ _ hw135_0; first | rwa [zg] at this | exact this) GW131.out) | (rw [zg]; exact Nat.ne_of_lt (Nat.lt_of_lt_of_le (by have := World.block_lt_of_cell? _ _ hw135_0; first | rwa [zg] at this | exact this) GW131.out)) | (show (Addr.add _ _).block ≠ _; rw [zg]; exact Nat.ne_of_lt (Nat.lt_of_lt_of_le (by have := World.block_lt_of_cell? _ _ hw135_0; first | rwa [zg] at this | exact this) GW131.out)) | (dsimp only; exact Nat.ne_of_lt (Nat.lt_of_lt_of_le (by have := World.block_lt_of_cell? _ _ hw135_0; first | rwa [zg] at this | exact this) GW131.out))) _).trans (((zw (p := ⟨zD, _, none⟩) (by first | exact Nat.ne_of_lt (Nat.lt_of_lt_of_le (by have := World.block_lt_of_cell? _ _ hw135_0; first | rwa [zg] at this | exact this) GW131.out) | (rw [zg]; exact Nat.ne_of_lt (Nat.lt_of_lt_of_le (by have := World.block_lt_of_cell? _ _ hw135_0; first | rwa [zg] at this | exact this) GW131.out)) | (show (Addr.add _ _).block ≠ _; rw [zg]; exact Nat.ne_of_lt (Nat.lt_of_lt_of_le (by have := World.block_lt_of_cell? _ _ hw135_0; first | rwa [zg] at this | exact this) GW131.out)) | (dsimp only; exact Nat.ne_of_lt (Nat.lt_of_lt_of_le (by have := World.block_lt_of_cell? _ _ hw135_0; first | rwa [zg] at this | exact this) GW131.out))) _).trans (((zw (p := ⟨zD, _, none⟩) (by first | exact Nat.ne_of_lt (Nat.lt_of_lt_of_le (by have := World.block_lt_of_cell? _ _ hw135_0; first | rwa [zg] at this | exact this) GW131.out) | (rw [zg]; exact Nat.ne_of_lt (Nat.lt_of_lt_of_le (by have := World.block_lt_of_cell? _ _ hw135_0; first | rwa [zg] at this | exact this) GW131.out)) | (show (Addr.add _ _).block ≠ _; rw [zg]; exact Nat.ne_of_lt (Nat.lt_of_lt_of_le (by have := World.block_lt_of_cell? _ _ hw135_0; first | rwa [zg] at this | exact this) GW131.out)) | (dsimp only; exact Nat.ne_of_lt (Nat.lt_of_lt_of_le (by have := World.block_lt_of_cell? _ _ hw135_0; first | rwa [zg] at this | exact this) GW131.out))) _).trans (((zw (p := ⟨zD, _, none⟩) (by first | exact Nat.ne_of_lt (Nat.lt_of_lt_of_le (by have := World.block_lt_of_cell? _ _ hw135_0; first | rwa [zg] at this | exact this) GW131.out) | (rw [zg]; exact Nat.ne_of_lt (Nat.lt_of_lt_of_le (by have := World.block_lt_of_cell? _ _ hw135_0; first | rwa [zg] at this | exact this) GW131.out)) | (show (Addr.add _ _).block ≠ _; rw [zg]; exact Nat.ne_of_lt (Nat.lt_of_lt_of_le (by have := World.block_lt_of_cell? _ _ hw135_0; first | rwa [zg] at this | exact this) GW131.out)) | (dsimp only; exact Nat.ne_of_lt (Nat.lt_of_lt_of_le (by have := World.block_lt_of_cell? _ _ hw135_0; first | rwa [zg] at this | exact this) GW131.out))) _).trans (((zw (p := ⟨zD, _, none⟩) (by first | exact Nat.ne_of_lt (Nat.lt_of_lt_of_le (by have := World.block_lt_of_cell? _ _ hw135_0; first | rwa [zg] at this | exact this) GW131.out) | (rw [zg]; exact Nat.ne_of_lt (Nat.lt_of_lt_of_le (by have := World.block_lt_of_cell? _ _ hw135_0; first | rwa [zg] at this | exact this) GW131.out)) | (show (Addr.add _ _).block ≠ _; rw [zg]; exact Nat.ne_of_lt (Nat.lt_of_lt_of_le (by have := World.block_lt_of_cell? _ _ hw135_0; first | rwa [zg] at this | exact this) GW131.out)) | (dsimp only; exact Nat.ne_of_lt (Nat.lt_of_lt_of_le (by have := World.block_lt_of_cell? _ _ hw135_0; first | rwa [zg] at this | exact this) GW131.out))) _).trans (hHeld.2))))))))))⟩ (fun hHeld => ?_)
         clear hK K
         refine pu 9 3 rfl rfl (any_of HT_.out (by kernel_rfl)) (fun _ _ _ _ h => h) (by rfl) ⟨_, _, fun w' => by go_simp; rfl, by simp only [pt, ps, p0, p1, zr, zt]; rfl, ?_⟩
         refine done_ (done_of HT_.out (by kernel_rfl)) ?_
         try go_wp2
         refine bodyPost_ret (results_ct rfl _ _ zD 124 #[.int .i64 1, .string (rdOf ByteArray.empty l0 1), .string t136, .int .i64 0, .bool false] (0, 0) _ rfl (bfin (by (repeat (first | (with_reducible first | refine zf ?_ _ | refine zj ?_ | refine ze ?_ _) | apply zA)); exact zC.out) (by rfl)) Tryd.underlying124 rfl (by kernel_rfl)) rfl ?_
         exact ⟨by first | rfl | (simp [*] <;> rfl), by repeat (first | (with_reducible first | exact HB.out | apply zh | apply zd | apply zi | refine zl ?_ zE.out) | exact HB.out)⟩
        ·rw [if_neg c12] at H
         exact absurd H (by simp)
       ·rw [if_neg c11] at H
        exact absurd H (by simp)
      ·replace c10 := Bool.eq_false_iff.mpr c10
       subst c10
       rw [if_neg (show ¬ (false = true) by decide)] at H
       have HC20 := Aside0.mk H
       clear H
       go_upto_region 8 with (fail)
       go_cut [47] (fun v47 wc => ∃ (kq : Nat) (x47_19 : Bool), v47 = .bool x47_19 ∧ Aside0 (spec_l6Op.j2 kq l0 x47_19 = some (r1, r2, r3, r4, r5, r6)) ∧ Aside0 (kq ≤ kj6) ∧ Aside0 (wc.heap[zD]? = some (.cells #[.int .i64 x132000_1, .string x132001_1, .string x132002_1, .int .i64 x132003_1, .bool x132004_1] 124 (0, 0))) ∧ Aside0 (Below w.heap.size w wc))
       case first =>
        have H := HC20.out
        clear HC20
        by_cases c21 : (l0.length : Int) = 3
        ·rw [if_pos c21] at H
         have c21b0 : ((l0.length : Int) == 3) = true := beq_iff_eq.mpr c21
         have c21b1 : ((l0.length : Int) != 3) = false := bne_eq_false_iff_eq.mpr c21
         clear c21
         (first | rw [c21b0] | (simp only [zr, zt]; rw [c21b0]) | skip)
         by_cases c22 : 0 < (l0.length : Int)
         ·rw [if_pos c22] at H
          have c22b0 : decide (0 < (l0.length : Int)) = true := decide_eq_true c22
          have c22b1 : decide (0 < l0.length) = true := decide_eq_true (by omega)
          clear c22
          have H' := Aside0.mk H
          clear H
          have p137 : 0 ≤ (0 : Int) := (by omega)
          have q137 : 0 < (l0.length : Int) := of_decide_eq_true (by with_reducible assumption)
          obtain ⟨ad137, e137, hx137_0⟩ := Kd.at_string HR0.out 0 p137 q137
          cases e137
          have qi137 : (0 < l0.length) = True := eq_true (by omega)
          (try rw [show ((0 : Int)).toNat = 0 from rfl] at hx137_0)
          (try rw [Addr.add_zero'] at hx137_0)
          replace hx137_0 := zk HB.out hx137_0
          replace p137 := eq_true p137
          replace q137 := eq_true q137
          go_wp2
          go_meet
          case rel => exact ⟨_, (((rdOf ByteArray.empty l0 0).toList == ([115, 101, 113] : List UInt8))), (by first | rfl | (simp [*]; done)), H', ⟨by have := HK1.out; have := HJ6.out; first | omega | exact Nat.le_refl _⟩, ⟨BL zC.out⟩, ⟨by repeat (first | (with_reducible first | exact HB.out | apply zh | apply zd | apply zi | refine zl ?_ zE.out) | exact HB.out)⟩⟩
         ·rw [if_neg c22] at H
          exact absurd H (by simp)
        ·rw [if_neg c21] at H
         have c21b0 : ((l0.length : Int) == 3) = false := beq_eq_false_iff_ne.mpr c21
         have c21b1 : ((l0.length : Int) != 3) = true := bne_iff_ne.mpr c21
         (first | rw [c21b0] | (simp only [zr, zt]; rw [c21b0]) | skip)
         have H' := Aside0.mk H
         clear H
         go_wp2
         go_meet
         case rel => exact ⟨_, (false), (by first | rfl | (simp [*]; done)), H', ⟨by have := HK1.out; have := HJ6.out; first | omega | exact Nat.le_refl _⟩, ⟨BL zC.out⟩, ⟨by repeat (first | (with_reducible first | exact HB.out | apply zh | apply zd | apply zi | refine zl ?_ zE.out) | exact HB.out)⟩⟩
       case rest =>
        clear HC20
        try clear c1
        try clear p1
        try clear q1
        try clear hx1
        try clear qi1
        try clear c2
        try clear p2
        try clear c3
        try clear c3b0
        try clear c4
        try clear c4b0
        try clear c5
        try clear c5b0
        try clear c5b1
        try clear p6
        try clear c7
        try clear c8
        try clear c8b0
        try clear c8b1
        try clear c9
        try clear c9b0
        try clear c9b1
        try clear c10
        try clear c11
        try clear c11b0
        try clear c11b1
        try clear c12
        try clear c12b0
        try clear c12b1
        try clear p13
        try clear q13
        try clear hx13
        try clear qi13
        try clear c21
        try clear c21b0
        try clear c21b1
        try clear c22
        try clear c22b0
        try clear c22b1
        try clear zF
        try clear zG
        try clear zH
        try clear zI
        try clear zJ
        try clear zK
        try clear zL
        try clear zM
        try clear zN
        try clear zO
        try clear hx132_0
        try clear hx133_0
        try clear hx134_0
        try clear hx135_0
        try clear hx137_0
        try clear p1
        try clear p132
        try clear p133
        try clear p134
        try clear p135
        try clear p137
        try clear p2
        try clear p6
        try clear q1
        try clear q132
        try clear q133
        try clear q134
        try clear q135
        try clear q137
        obtain ⟨kq, x47_19, rfl, HA, HJ19, zC, HB⟩ := hcut
        cases kq with
        | zero => exact absurd HA.out (by simp [spec_l6Op.j2])
        | succ kj19 =>
         have H := HA.out
         clear HA
         simp only [spec_l6Op.j2] at H
         by_cases c23 : x47_19 = true
         ·subst c23
          rw [if_pos rfl] at H
          by_cases c24 : 1 < (l0.length : Int)
          ·rw [if_pos c24] at H
           have c24b0 : decide (1 < (l0.length : Int)) = true := decide_eq_true c24
           have c24b1 : decide (1 < l0.length) = true := decide_eq_true (by omega)
           clear c24
           by_cases c25 : 2 < (l0.length : Int)
           ·rw [if_pos c25] at H
            have c25b0 : decide (2 < (l0.length : Int)) = true := decide_eq_true c25
            have c25b1 : decide (2 < l0.length) = true := decide_eq_true (by omega)
            clear c25
            replace H := Option.bind_eq_some_iff.mp H
            obtain ⟨t140, A260, H⟩ := H
            try dsimp only at H
            have A26 := Aside0.mk A260
            clear A260
            simp only [Option.some.injEq, Prod.mk.injEq] at H
            obtain ⟨rfl, rfl, rfl, rfl, rfl, rfl⟩ := H
            try go_wp2
            have n0_ := Aside0.mk (zj zC.out)
            have n1_ := Aside0.mk (zi HB.out)
            clear zC
            clear HB
            have zC := n0_
            have HB := n1_
            clear n0_ n1_
            have p138 : 0 ≤ (1 : Int) := (by omega)
            have q138 : 1 < (l0.length : Int) := of_decide_eq_true (by with_reducible assumption)
            obtain ⟨ad138, e138, hx138_0⟩ := Kd.at_string HR0.out 1 p138 q138
            have hw138_0 := hx138_0
            (try rw [show ((1 : Int)).toNat = 1 from rfl] at hw138_0)
            (try rw [show 1 * 1 = 1 from rfl] at hw138_0)
            (try simp only [Nat.reduceMul, Nat.reduceEqDiff, Go.Addr.add, ↓reduceIte] at hw138_0)
            cases e138
            (try simp only [show (1 : Int).toNat = 1 from rfl, Nat.reduceMul, Nat.reduceEqDiff, Go.Addr.add, ↓reduceIte] at hx138_0)
            have qi138 : (1 < l0.length) = True := eq_true (by omega)
            (try rw [show ((1 : Int)).toNat = 1 from rfl] at hx138_0)
            replace hx138_0 := zk HB.out hx138_0
            replace p138 := eq_true p138
            replace q138 := eq_true q138
            have p139 : 0 ≤ (2 : Int) := (by omega)
            have q139 : 2 < (l0.length : Int) := of_decide_eq_true (by with_reducible assumption)
            obtain ⟨ad139, e139, hx139_0⟩ := Kd.at_string HR0.out 2 p139 q139
            have hw139_0 := hx139_0
            (try rw [show ((2 : Int)).toNat = 2 from rfl] at hw139_0)
            (try rw [show 2 * 1 = 2 from rfl] at hw139_0)
            (try simp only [Nat.reduceMul, Nat.reduceEqDiff, Go.Addr.add, ↓reduceIte] at hw139_0)
            obtain rfl : ad138 = ad139 := (by injection e139)
            (try simp only [show (2 : Int).toNat = 2 from rfl, Nat.reduceMul, Nat.reduceEqDiff, Go.Addr.add, ↓reduceIte] at hx139_0)
            have qi139 : (2 < l0.length) = True := eq_true (by omega)
            (try rw [show ((2 : Int)).toNat = 2 from rfl] at hx139_0)
            replace hx139_0 := zk HB.out hx139_0
            replace p139 := eq_true p139
            replace q139 := eq_true q139
            refine start_ (n := 10) (S := fun w' => w'.cell? ⟨ad138.block, ad138.off + 1, none⟩ = some (.string (rdOf ByteArray.empty l0 1)) ∧ w'.cell? ⟨ad138.block, ad138.off + 2, none⟩ = some (.string (rdOf ByteArray.empty l0 2))) (ds := []) #[false, false, false, false, false, false, false, false, false, false] (by kernel_rfl) rfl rfl ⟨(zk HB.out hw138_0), (zk HB.out hw139_0)⟩ (fun hHeld => ?_); refine with_tabW spec_l6Op.tab9 spec_l6Op.bits9 (fun HT_ HW_ => ?_)
            generalize wc.drew = w27 at zC HB hx138_0 hx139_0 hHeld ⊢
            refine pu 0 48 rfl rfl (any_of HT_.out (by kernel_rfl)) (fun _ _ _ _ h => h) (by rfl) ⟨_, _, fun w' => by go_simp; rfl, by simp only [pt, ps, p0, p1, zr, zt]; rfl, ?_⟩
            refine pu 1 49 rfl rfl (any_of HT_.out (by kernel_rfl)) (fun _ _ _ _ h => h) (by rfl) ⟨_, _, fun w' => by go_simp; rfl, by simp only [pt, ps, p0, p1, zr, zt]; rfl, ?_⟩
            refine pu 3 51 rfl rfl (any_of HT_.out (by kernel_rfl)) (fun _ _ _ _ h => h) (by rfl) ⟨_, _, fun w' => by go_simp; rfl, by simp only [pt, ps, p0, p1, zr, zt]; rfl, ?_⟩
            refine pu 4 52 rfl rfl (any_of HT_.out (by kernel_rfl)) (fun _ _ _ _ h => h) (by rfl) ⟨_, _, fun w' => by go_simp; rfl, by simp only [pt, ps, p0, p1, zr, zt]; rfl, ?_⟩
            refine ta 2 50 rfl rfl (take_ofW HT_.out HW_.out (by kernel_rfl)) (fun _ _ _ _ h => h) (by rfl) hHeld ⟨_, _, by rintro w' ⟨s0, s1⟩; go_simp; rfl, by simp only [pt, ps, p0, p1, zr, zt]; rfl, ?_⟩
            refine ta 5 53 rfl rfl (take_ofW HT_.out HW_.out (by kernel_rfl)) (fun _ _ _ _ h => h) (by rfl) hHeld ⟨_, _, by rintro w' ⟨s0, s1⟩; go_simp; rfl, by simp only [pt, ps, p0, p1, zr, zt]; rfl, ?_⟩
            refine one_ (i := 6) (N := some 54) #[true, true, true, true, true, true, true, false, false, false] rfl rfl (one_of HT_.out (by kernel_rfl)) (by decide) (fun K hK => ?_)
            refine goes_ Tryd.func112 (by kernel_rfl) rfl #[.string (rdOf ByteArray.empty l0 2)] (by rfl) rfl rfl (by (try simp only [List.map_toArray, List.map_cons, List.map_nil]); first | done | rfl) ?_
            with_reducible refine (spec_l6Data.calls (rdOf ByteArray.empty l0 2) t140 _ A26.out).mono ?_
            rintro e w' ⟨rfl, ⟨nd, rfl⟩⟩
            refine ⟨_, rfl, ?_⟩
            refine hK.out _ _ ⟨(zk HB.out hw138_0), (zk HB.out hw139_0)⟩ (fun hHeld => ?_)
            clear hK K
            refine norm_ (a' := ?_) ?_ ?_
            rotate_left
            ·show Act.put _ (some 54) _ = _
             simp only [pt, ps, p0, p1, zr, zt]
             rfl
            refine pu 7 55 rfl rfl (any_of HT_.out (by kernel_rfl)) (fun _ _ _ _ h => h) (by rfl) ⟨_, _, fun w' => by go_simp; rfl, by simp only [pt, ps, p0, p1, zr, zt]; rfl, ?_⟩
            refine one_ (i := 8) (N := none) #[true, true, true, true, true, true, true, true, true, false] rfl rfl (one_of HT_.out (by kernel_rfl)) (by decide) (fun K hK => ?_)
            have hs28 : w27.cell? ⟨zD, 0, none⟩ = some (.int .i64 x132000_1) := (zc zC.out 0).trans rfl
            have hfs28 := zb zC.out 0
            have hs29 : w27.cell? ⟨zD, 1, none⟩ = some (.string x132001_1) := (zc zC.out 1).trans rfl
            have hfs29 := zb zC.out 1
            have hs30 : w27.cell? ⟨zD, 2, none⟩ = some (.string x132002_1) := (zc zC.out 2).trans rfl
            have hfs30 := zb zC.out 2
            have hs31 : w27.cell? ⟨zD, 3, none⟩ = some (.int .i64 x132003_1) := (zc zC.out 3).trans rfl
            have hfs31 := zb zC.out 3
            have hs32 : w27.cell? ⟨zD, 4, none⟩ = some (.bool x132004_1) := (zc zC.out 4).trans rfl
            have hfs32 := zb zC.out 4
            refine skip_ (w1 := ?_) (by rfl) rfl ?_ ?_
            rotate_left
            ·go_simp
             rfl
            refine hK.out _ _ ⟨((zw (p := ⟨zD, _, none⟩) (by first | exact Nat.ne_of_lt (Nat.lt_of_lt_of_le (by have := World.block_lt_of_cell? _ _ hw138_0; first | rwa [zg] at this | exact this) GW131.out) | (rw [zg]; exact Nat.ne_of_lt (Nat.lt_of_lt_of_le (by have := World.block_lt_of_cell? _ _ hw138_0; first | rwa [zg] at this | exact this) GW131.out)) | (show (Addr.add _ _).block ≠ _; rw [zg]; exact Nat.ne_of_lt (Nat.lt_of_lt_of_le (by have := World.block_lt_of_cell? _ _ hw138_0; first | rwa [zg] at this | exact this) GW131.out)) | (dsimp only; exact Nat.ne_of_lt (Nat.lt_of_lt_of_le (by have := World.block_lt_of_cell? _ _ hw138_0; first | rwa [zg] at this | exact this) GW131.out))) _).trans (((zw (p := ⟨zD, _, none⟩) (by first | exact Nat.ne_of_lt (Nat.lt_of_lt_of_le (by have := World.block_lt_of_cell? _ _ hw138_0; first | rwa [zg] at this | exact this) GW131.out) | (rw [zg]; exact Nat.ne_of_lt (Nat.lt_of_lt_of_le (by have := World.block_lt_of_cell? _ _ hw138_0; first | rwa [zg] at this | exact this) GW131.out)) | (show (Addr.add _ _).block ≠ _; rw [zg]; exact Nat.ne_of_lt (Nat.lt_of_lt_of_le (by have := World.block_lt_of_cell? _ _ hw138_0; first | rwa [zg] at this | exact this) GW131.out)) | (dsimp only; exact Nat.ne_of_lt (Nat.lt_of_lt_of_le (by have := World.block_lt_of_cell? _ _ hw138_0; first | rwa [zg] at this | exact this) GW131.out))) _).trans (((zw (p := ⟨zD, _, none⟩) (by first | exact Nat.ne_of_lt (Nat.lt_of_lt_of_le (by have := World.block_lt_of_cell? _ _ hw138_0; first | rwa [zg] at this | exact this) GW131.out) | (rw [zg]; exact Nat.ne_of_lt (Nat.lt_of_lt_of_le (by have := World.block_lt_of_cell? _ _ hw138_0; first | rwa [zg] at this | exact this) GW131.out)) | (show (Addr.add _ _).block ≠ _; rw [zg]; exact Nat.ne_of_lt (Nat.lt_of_lt_of_le (by have := World.block_lt_of_cell? _ _ hw138_0; first | rwa [zg] at this | exact this) GW131.out)) | (dsimp only; exact Nat.ne_of_lt (Nat.lt_of_lt_of_le (by have := World.block_lt_of_cell? _ _ hw138_0; first | rwa [zg] at this | exact this) GW131.out))) _).trans (((zw (p := ⟨zD, _, none⟩) (by first | exact Nat.ne_of_lt (Nat.lt_of_lt_of_le (by have := World.block_lt_of_cell? _ _ hw138_0; first | rwa [zg] at this | exact this) GW131.out) | (rw [zg]; exact Nat.ne_of_lt (Nat.lt_of_lt_of_le (by have := World.block_lt_of_cell? _ _ hw138_0; first | rwa [zg] at this | exact this) GW131.out)) | (show (Addr.add _ _).block ≠ _; rw [zg]; exact Nat.ne_of_lt (Nat.lt_of_lt_of_le (by have := World.block_lt_of_cell? _ _ hw138_0; first | rwa [zg] at this | exact this) GW131.out)) | (dsimp only; exact Nat.ne_of_lt (Nat.lt_of_lt_of_le (by have := World.block_lt_of_cell? _ _ hw138_0; first | rwa [zg] at this | exact this) GW131.out))) _).trans (((zw (p := ⟨zD, _, none⟩) (by first | exact Nat.ne_of_lt (Nat.lt_of_lt_of_le (by have := World.block_lt_of_cell? _ _ hw138_0; first | rwa [zg] at this | exact this) GW131.out) | (rw [zg]; exact Nat.ne_of_lt (Nat.lt_of_lt_of_le (by have := World.block_lt_of_cell? _ _ hw138_0; first | rwa [zg] at this | exact this) GW131.out)) | (show (Addr.add _ _).block ≠ _; rw [zg]; exact Nat.ne_of_lt (Nat.lt_of_lt_of_le (by have := World.block_lt_of_cell? _ _ hw138_0; first | rwa [zg] at this | exact this) GW131.out)) | (dsimp only; exact Nat.ne_of_lt (Nat.lt_of_lt_of_le (by have := World.block_lt_of_cell? _ _ hw138_0; first | rwa [zg] at this | exact this) GW131.out))) _).trans (hHeld.1)))))))))), ((zw (p := ⟨zD, _, none⟩) (by first | exact Nat.ne_of_lt (Nat.lt_of_lt_of_le (by have := World.block_lt_of_cell? _ _ hw139_0; first | rwa [zg] at this | exact this) GW131.out) | (rw [zg]; exact Nat.ne_of_lt (Nat.lt_of_lt_of_le (by have := World.block_lt_of_cell? _ _ hw139_0; first | rwa [zg] at this | exact this) GW131.out)) | (show (Addr.add _ _).block ≠ _; rw [zg]; exact Nat.ne_of_lt (Nat.lt_of_lt_of_le (by have := World.block_lt_of_cell? _ _ hw139_0; first | rwa [zg] at this | exact this) GW131.out)) | (dsimp only; exact Nat.ne_of_lt (Nat.lt_of_lt_of_le (by have := World.block_lt_of_cell? _ _ hw139_0; first | rwa [zg] at this | exact this) GW131.out))) _).trans (((zw (p := ⟨zD, _, none⟩) (by first | exact Nat.ne_of_lt (Nat.lt_of_lt_of_le (by have := World.block_lt_of_cell? _ _ hw139_0; first | rwa [zg] at this | exact this) GW131.out) | (rw [zg]; exact Nat.ne_of_lt (Nat.lt_of_lt_of_le (by have := World.block_lt_of_cell? _ _ hw139_0; first | rwa [zg] at this | exact this) GW131.out)) | (show (Addr.add _ _).block ≠ _; rw [zg]; exact Nat.ne_of_lt (Nat.lt_of_lt_of_le (by have := World.block_lt_of_cell? _ _ hw139_0; first | rwa [zg] at this | exact this) GW131.out)) | (dsimp only; exact Nat.ne_of_lt (Nat.lt_of_lt_of_le (by have := World.block_lt_of_cell? _ _ hw139_0; first | rwa [zg] at this | exact this) GW131.out))) _).trans (((zw (p := ⟨zD, _, none⟩) (by first | exact Nat.ne_of_lt (Nat.lt_of_lt_of_le (by have := World.block_lt_of_cell? _ _ hw139_0; first | rwa [zg] at this | exact this) GW131.out) | (rw [zg]; exact Nat.ne_of_lt (Nat.lt_of_lt_of_le (by have := World.block_lt_of_cell? _ _ hw139_0; first | rwa [zg] at this | exact this) GW131.out)) | (show (Addr.add _ _).block ≠ _; rw [zg]; exact Nat.ne_of_lt (Nat.lt_of_lt_of_le (by have := World.block_lt_of_cell? _ _ hw139_0; first | rwa [zg] at this | exact this) GW131.out)) | (dsimp only; exact Nat.ne_of_lt (Nat.lt_of_lt_of_le (by have := World.block_lt_of_cell? _ _ hw139_0; first | rwa [zg] at this | exact this) GW131.out))) _).trans (((zw (p := ⟨zD, _, none⟩) (by first | exact Nat.ne_of_lt (Nat.lt_of_lt_of_le (by have := World.block_lt_of_cell? _ _ hw139_0; first | rwa [zg] at this | exact this) GW131.out) | (rw [zg]; exact Nat.ne_of_lt (Nat.lt_of_lt_of_le (by have := World.block_lt_of_cell? _ _ hw139_0; first | rwa [zg] at this | exact this) GW131.out)) | (show (Addr.add _ _).block ≠ _; rw [zg]; exact Nat.ne_of_lt (Nat.lt_of_lt_of_le (by have := World.block_lt_of_cell? _ _ hw139_0; first | rwa [zg] at this | exact this) GW131.out)) | (dsimp only; exact Nat.ne_of_lt (Nat.lt_of_lt_of_le (by have := World.block_lt_of_cell? _ _ hw139_0; first | rwa [zg] at this | exact this) GW131.out))) _).trans (((zw (p := ⟨zD, _, none⟩) (by first | exact Nat.ne_of_lt (Nat.lt_of_lt_of_le (by have := World.block_lt_of_cell? _ _ hw139_0; first | rwa [zg] at this | exact this) GW131.out) | (rw [zg]; exact Nat.ne_of_lt (Nat.lt_of_lt_of_le (by have := World.block_lt_of_cell? _ _ hw139_0; first | rwa [zg] at this | exact this) GW131.out)) | (show (Addr.add _ _).block ≠ _; rw [zg]; exact Nat.ne_of_lt (Nat.lt_of_lt_of_le (by have := World.block_lt_of_cell? _ _ hw139_0; first | rwa [zg] at this | exact this) GW131.out)) | (dsimp only; exact Nat.ne_of_lt (Nat.lt_of_lt_of_le (by have := World.block_lt_of_cell? _ _ hw139_0; first | rwa [zg] at this | exact this) GW131.out))) _).trans (hHeld.2))))))))))⟩ (fun hHeld => ?_)
            clear hK K
            refine pu 9 3 rfl rfl (any_of HT_.out (by kernel_rfl)) (fun _ _ _ _ h => h) (by rfl) ⟨_, _, fun w' => by go_simp; rfl, by simp only [pt, ps, p0, p1, zr, zt]; rfl, ?_⟩
            refine done_ (done_of HT_.out (by kernel_rfl)) ?_
            try go_wp2
            refine bodyPost_ret (results_ct rfl _ _ zD 124 #[.int .i64 1, .string (rdOf ByteArray.empty l0 1), .string t140, .int .i64 0, .bool true] (0, 0) _ rfl (bfin (by (repeat (first | (with_reducible first | refine zf ?_ _ | refine zj ?_ | refine ze ?_ _) | apply zA)); exact zC.out) (by rfl)) Tryd.underlying124 rfl (by kernel_rfl)) rfl ?_
            exact ⟨by first | rfl | (simp [*] <;> rfl), by repeat (first | (with_reducible first | exact HB.out | apply zh | apply zd | apply zi | refine zl ?_ zE.out) | exact HB.out)⟩
           ·rw [if_neg c25] at H
            exact absurd H (by simp)
          ·rw [if_neg c24] at H
           exact absurd H (by simp)
         ·replace c23 := Bool.eq_false_iff.mpr c23
          subst c23
          rw [if_neg (show ¬ (false = true) by decide)] at H
          have HC33 := Aside0.mk H
          clear H
          go_upto_region 10 with (fail)
          go_cut [64] (fun v64 wc => ∃ (kq : Nat) (x64_32 : Bool), v64 = .bool x64_32 ∧ Aside0 (spec_l6Op.j3 kq l0 x64_32 = some (r1, r2, r3, r4, r5, r6)) ∧ Aside0 (kq ≤ kj19) ∧ Aside0 (wc.heap[zD]? = some (.cells #[.int .i64 x132000_1, .string x132001_1, .string x132002_1, .int .i64 x132003_1, .bool x132004_1] 124 (0, 0))) ∧ Aside0 (Below w.heap.size w wc))
          case first =>
           have H := HC33.out
           clear HC33
           by_cases c34 : (l0.length : Int) = 4
           ·rw [if_pos c34] at H
            have c34b0 : ((l0.length : Int) == 4) = true := beq_iff_eq.mpr c34
            have c34b1 : ((l0.length : Int) != 4) = false := bne_eq_false_iff_eq.mpr c34
            clear c34
            (first | rw [c34b0] | (simp only [zr, zt]; rw [c34b0]) | skip)
            by_cases c35 : 0 < (l0.length : Int)
            ·rw [if_pos c35] at H
             have c35b0 : decide (0 < (l0.length : Int)) = true := decide_eq_true c35
             have c35b1 : decide (0 < l0.length) = true := decide_eq_true (by omega)
             clear c35
             have H' := Aside0.mk H
             clear H
             have p141 : 0 ≤ (0 : Int) := (by omega)
             have q141 : 0 < (l0.length : Int) := of_decide_eq_true (by with_reducible assumption)
             obtain ⟨ad141, e141, hx141_0⟩ := Kd.at_string HR0.out 0 p141 q141
             cases e141
             have qi141 : (0 < l0.length) = True := eq_true (by omega)
             (try rw [show ((0 : Int)).toNat = 0 from rfl] at hx141_0)
             (try rw [Addr.add_zero'] at hx141_0)
             replace hx141_0 := zk HB.out hx141_0
             replace p141 := eq_true p141
             replace q141 := eq_true q141
             go_wp2
             go_meet
             case rel => exact ⟨_, (((rdOf ByteArray.empty l0 0).toList == ([115, 101, 116] : List UInt8))), (by first | rfl | (simp [*]; done)), H', ⟨by have := HK1.out; have := HJ6.out; have := HJ19.out; first | omega | exact Nat.le_refl _⟩, ⟨BL zC.out⟩, ⟨by repeat (first | (with_reducible first | exact HB.out | apply zh | apply zd | apply zi | refine zl ?_ zE.out) | exact HB.out)⟩⟩
            ·rw [if_neg c35] at H
             exact absurd H (by simp)
           ·rw [if_neg c34] at H
            have c34b0 : ((l0.length : Int) == 4) = false := beq_eq_false_iff_ne.mpr c34
            have c34b1 : ((l0.length : Int) != 4) = true := bne_iff_ne.mpr c34
            (first | rw [c34b0] | (simp only [zr, zt]; rw [c34b0]) | skip)
            have H' := Aside0.mk H
            clear H
            go_wp2
            go_meet
            case rel => exact ⟨_, (false), (by first | rfl | (simp [*]; done)), H', ⟨by have := HK1.out; have := HJ6.out; have := HJ19.out; first | omega | exact Nat.le_refl _⟩, ⟨BL zC.out⟩, ⟨by repeat (first | (with_reducible first | exact HB.out | apply zh | apply zd | apply zi | refine zl ?_ zE.out) | exact HB.out)⟩⟩
          case rest =>
           clear HC33
           try clear c1
           try clear p1
           try clear q1
           try clear hx1
           try clear qi1
           try clear c2
           try clear p2
           try clear c3
           try clear c3b0
           try clear c4
           try clear c4b0
           try clear c5
           try clear c5b0
           try clear c5b1
           try clear p6
           try clear c7
           try clear c8
           try clear c8b0
           try clear c8b1
           try clear c9
           try clear c9b0
           try clear c9b1
           try clear c10
           try clear c11
           try clear c11b0
           try clear c11b1
           try clear c12
           try clear c12b0
           try clear c12b1
           try clear p13
           try clear q13
           try clear hx13
           try clear qi13
           try clear p14
           try clear q14
           try clear hx14
           try clear qi14
           try clear c21
           try clear c21b0
           try clear c21b1
           try clear c22
           try clear c22b0
           try clear c22b1
           try clear c23
           try clear c24
           try clear c24b0
           try clear c24b1
           try clear c25
           try clear c25b0
           try clear c25b1
           try clear c34
           try clear c34b0
           try clear c34b1
           try clear c35
           try clear c35b0
           try clear c35b1
           try clear zF
           try clear zG
           try clear zH
           try clear zI
           try clear zJ
           try clear zK
           try clear zL
           try clear zM
           try clear zN
           try clear zO
           try clear hx132_0
           try clear hx133_0
           try clear hx134_0
           try clear hx135_0
           try clear hx137_0
           try clear hx138_0
           try clear hx139_0
           try clear hx141_0
           try clear p1
           try clear p13
           try clear p132
           try clear p133
           try clear p134
           try clear p135
           try clear p137
           try clear p138
           try clear p139
           try clear p141
           try clear p2
           try clear p6
           try clear q1
           try clear q13
           try clear q132
           try clear q133
           try clear q134
           try clear q135
           try clear q137
           try clear q138
           try clear q139
           try clear q141
           obtain ⟨kq, x64_32, rfl, HA, HJ32, zC, HB⟩ := hcut
           cases kq with
           | zero => exact absurd HA.out (by simp [spec_l6Op.j3])
           | succ kj32 =>
            have H := HA.out
            clear HA
            simp only [spec_l6Op.j3] at H
            by_cases c36 : x64_32 = true
            ·subst c36
             rw [if_pos rfl] at H
             by_cases c37 : 3 < (l0.length : Int)
             ·rw [if_pos c37] at H
              have c37b0 : decide (3 < (l0.length : Int)) = true := decide_eq_true c37
              have c37b1 : decide (3 < l0.length) = true := decide_eq_true (by omega)
              clear c37
              replace H := Option.bind_eq_some_iff.mp H
              obtain ⟨⟨t143, t144⟩, A380, H⟩ := H
              try dsimp only at H
              have A38 := Aside0.mk A380
              clear A380
              by_cases c39 : 1 < (l0.length : Int)
              ·rw [if_pos c39] at H
               have c39b0 : decide (1 < (l0.length : Int)) = true := decide_eq_true c39
               have c39b1 : decide (1 < l0.length) = true := decide_eq_true (by omega)
               clear c39
               by_cases c40 : 2 < (l0.length : Int)
               ·rw [if_pos c40] at H
                have c40b0 : decide (2 < (l0.length : Int)) = true := decide_eq_true c40
                have c40b1 : decide (2 < l0.length) = true := decide_eq_true (by omega)
                clear c40
                replace H := Option.bind_eq_some_iff.mp H
                obtain ⟨t147, A410, H⟩ := H
                try dsimp only at H
                have A41 := Aside0.mk A410
                clear A410
                simp only [Option.some.injEq, Prod.mk.injEq] at H
                obtain ⟨rfl, rfl, rfl, rfl, rfl, rfl⟩ := H
                have p142 : 0 ≤ (3 : Int) := (by omega)
                have q142 : 3 < (l0.length : Int) := of_decide_eq_true (by with_reducible assumption)
                obtain ⟨ad142, e142, hx142_0⟩ := Kd.at_string HR0.out 3 p142 q142
                cases e142
                (try simp only [show (3 : Int).toNat = 3 from rfl, Nat.reduceMul, Nat.reduceEqDiff, Go.Addr.add, ↓reduceIte] at hx142_0)
                have qi142 : (3 < l0.length) = True := eq_true (by omega)
                (try rw [show ((3 : Int)).toNat = 3 from rfl] at hx142_0)
                replace hx142_0 := zk HB.out hx142_0
                replace p142 := eq_true p142
                replace q142 := eq_true q142
                try go_wp2_with (first | ((with_reducible refine zo (f := 113) rfl ?_); refine zy (some 69) rfl rfl Tryd.func113 (by kernel_rfl) rfl #[.string (rdOf ByteArray.empty l0 3)] rfl (by (try simp only [List.map_toArray, List.map_cons, List.map_nil]); first | done | rfl) ?_; (with_reducible refine (spec_l6Number.calls kj32 (rdOf ByteArray.empty l0 3) t143 t144 _ A38.out).mono ?_); rintro e w' ⟨rfl, ⟨nd, rfl⟩⟩; refine ⟨_, rfl, ?_⟩; (try (rw [drewN_self wc]; generalize hq_ : World.drewN wc _ = wc; have n0_ : Aside0 (wc.heap[zD]? = some (.cells #[.int .i64 x132000_1, .string x132001_1, .string x132002_1, .int .i64 x132003_1, .bool x132004_1] 124 (0, 0))) := ⟨by rw [← hq_]; exact (BL zC.out)⟩; have n1_ : Aside0 (Below w.heap.size w wc) := ⟨by rw [← hq_]; exact (by exact bl HB.out)⟩; clear zC HB hq_; have zC := n0_; have HB := n1_; clear n0_ n1_))))
                have n0_ := Aside0.mk (zj zC.out)
                have n1_ := Aside0.mk (zi HB.out)
                clear zC
                clear HB
                have zC := n0_
                have HB := n1_
                clear n0_ n1_
                have p145 : 0 ≤ (1 : Int) := (by omega)
                have q145 : 1 < (l0.length : Int) := of_decide_eq_true (by with_reducible assumption)
                obtain ⟨ad145, e145, hx145_0⟩ := Kd.at_string HR0.out 1 p145 q145
                have hw145_0 := hx145_0
                (try rw [show ((1 : Int)).toNat = 1 from rfl] at hw145_0)
                (try rw [show 1 * 1 = 1 from rfl] at hw145_0)
                (try simp only [Nat.reduceMul, Nat.reduceEqDiff, Go.Addr.add, ↓reduceIte] at hw145_0)
                obtain rfl : ad142 = ad145 := (by injection e145)
                (try simp only [show (1 : Int).toNat = 1 from rfl, Nat.reduceMul, Nat.reduceEqDiff, Go.Addr.add, ↓reduceIte] at hx145_0)
                have qi145 : (1 < l0.length) = True := eq_true (by omega)
                (try rw [show ((1 : Int)).toNat = 1 from rfl] at hx145_0)
                replace hx145_0 := zk HB.out hx145_0
                replace p145 := eq_true p145
                replace q145 := eq_true q145
                have p146 : 0 ≤ (2 : Int) := (by omega)
                have q146 : 2 < (l0.length : Int) := of_decide_eq_true (by with_reducible assumption)
                obtain ⟨ad146, e146, hx146_0⟩ := Kd.at_string HR0.out 2 p146 q146
                have hw146_0 := hx146_0
                (try rw [show ((2 : Int)).toNat = 2 from rfl] at hw146_0)
                (try rw [show 2 * 1 = 2 from rfl] at hw146_0)
                (try simp only [Nat.reduceMul, Nat.reduceEqDiff, Go.Addr.add, ↓reduceIte] at hw146_0)
                obtain rfl : ad142 = ad146 := (by injection e146)
                (try simp only [show (2 : Int).toNat = 2 from rfl, Nat.reduceMul, Nat.reduceEqDiff, Go.Addr.add, ↓reduceIte] at hx146_0)
                have qi146 : (2 < l0.length) = True := eq_true (by omega)
                (try rw [show ((2 : Int)).toNat = 2 from rfl] at hx146_0)
                replace hx146_0 := zk HB.out hx146_0
                replace p146 := eq_true p146
                replace q146 := eq_true q146
                refine start_ (n := 12) (S := fun w' => w'.cell? ⟨ad142.block, ad142.off + 1, none⟩ = some (.string (rdOf ByteArray.empty l0 1)) ∧ w'.cell? ⟨ad142.block, ad142.off + 2, none⟩ = some (.string (rdOf ByteArray.empty l0 2))) (ds := []) #[false, false, false, false, false, false, false, false, false, false, false, false] (by kernel_rfl) rfl rfl ⟨(zk HB.out hw145_0), (zk HB.out hw146_0)⟩ (fun hHeld => ?_); refine with_tabW spec_l6Op.tab12 spec_l6Op.bits12 (fun HT_ HW_ => ?_)
                generalize wc.drew = w42 at zC HB hx145_0 hx146_0 hHeld ⊢
                refine pu 0 72 rfl rfl (any_of HT_.out (by kernel_rfl)) (fun _ _ _ _ h => h) (by rfl) ⟨_, _, fun w' => by go_simp; rfl, by simp only [pt, ps, p0, p1, zr, zt]; rfl, ?_⟩
                refine pu 1 73 rfl rfl (any_of HT_.out (by kernel_rfl)) (fun _ _ _ _ h => h) (by rfl) ⟨_, _, fun w' => by go_simp; rfl, by simp only [pt, ps, p0, p1, zr, zt]; rfl, ?_⟩
                refine pu 3 75 rfl rfl (any_of HT_.out (by kernel_rfl)) (fun _ _ _ _ h => h) (by rfl) ⟨_, _, fun w' => by go_simp; rfl, by simp only [pt, ps, p0, p1, zr, zt]; rfl, ?_⟩
                refine pu 4 76 rfl rfl (any_of HT_.out (by kernel_rfl)) (fun _ _ _ _ h => h) (by rfl) ⟨_, _, fun w' => by go_simp; rfl, by simp only [pt, ps, p0, p1, zr, zt]; rfl, ?_⟩
                refine pu 7 79 rfl rfl (any_of HT_.out (by kernel_rfl)) (fun _ _ _ _ h => h) (by rfl) ⟨_, _, fun w' => by go_simp; rfl, by simp only [pt, ps, p0, p1, zr, zt]; rfl, ?_⟩
                refine pu 9 81 rfl rfl (any_of HT_.out (by kernel_rfl)) (fun _ _ _ _ h => h) (by rfl) ⟨_, _, fun w' => by go_simp; rfl, by simp only [pt, ps, p0, p1, zr, zt]; rfl, ?_⟩
                refine ta 2 74 rfl rfl (take_ofW HT_.out HW_.out (by kernel_rfl)) (fun _ _ _ _ h => h) (by rfl) hHeld ⟨_, _, by rintro w' ⟨s0, s1⟩; go_simp; rfl, by simp only [pt, ps, p0, p1, zr, zt]; rfl, ?_⟩
                refine ta 5 77 rfl rfl (take_ofW HT_.out HW_.out (by kernel_rfl)) (fun _ _ _ _ h => h) (by rfl) hHeld ⟨_, _, by rintro w' ⟨s0, s1⟩; go_simp; rfl, by simp only [pt, ps, p0, p1, zr, zt]; rfl, ?_⟩
                refine one_ (i := 6) (N := some 78) #[true, true, true, true, true, true, true, true, false, true, false, false] rfl rfl (one_of HT_.out (by kernel_rfl)) (by decide) (fun K hK => ?_)
                refine goes_ Tryd.func112 (by kernel_rfl) rfl #[.string (rdOf ByteArray.empty l0 2)] (by rfl) rfl rfl (by (try simp only [List.map_toArray, List.map_cons, List.map_nil]); first | done | rfl) ?_
                with_reducible refine (spec_l6Data.calls (rdOf ByteArray.empty l0 2) t147 _ A41.out).mono ?_
                rintro e w' ⟨rfl, ⟨nd, rfl⟩⟩
                refine ⟨_, rfl, ?_⟩
                refine hK.out _ _ ⟨(zk HB.out hw145_0), (zk HB.out hw146_0)⟩ (fun hHeld => ?_)
                clear hK K
                refine norm_ (a' := ?_) ?_ ?_
                rotate_left
                ·show Act.put _ (some 78) _ = _
                 simp only [pt, ps, p0, p1, zr, zt]
                 rfl
                refine pu 8 80 rfl rfl (any_of HT_.out (by kernel_rfl)) (fun _ _ _ _ h => h) (by rfl) ⟨_, _, fun w' => by go_simp; rfl, by simp only [pt, ps, p0, p1, zr, zt]; rfl, ?_⟩
                refine one_ (i := 10) (N := none) #[true, true, true, true, true, true, true, true, true, true, true, false] rfl rfl (one_of HT_.out (by kernel_rfl)) (by decide) (fun K hK => ?_)
                have hs43 : w42.cell? ⟨zD, 0, none⟩ = some (.int .i64 x132000_1) := (zc zC.out 0).trans rfl
                have hfs43 := zb zC.out 0
                have hs44 : w42.cell? ⟨zD, 1, none⟩ = some (.string x132001_1) := (zc zC.out 1).trans rfl
                have hfs44 := zb zC.out 1
                have hs45 : w42.cell? ⟨zD, 2, none⟩ = some (.string x132002_1) := (zc zC.out 2).trans rfl
                have hfs45 := zb zC.out 2
                have hs46 : w42.cell? ⟨zD, 3, none⟩ = some (.int .i64 x132003_1) := (zc zC.out 3).trans rfl
                have hfs46 := zb zC.out 3
                have hs47 : w42.cell? ⟨zD, 4, none⟩ = some (.bool x132004_1) := (zc zC.out 4).trans rfl
                have hfs47 := zb zC.out 4
                refine skip_ (w1 := ?_) (by rfl) rfl ?_ ?_
                rotate_left
                ·go_simp
                 rfl
                refine hK.out _ _ ⟨((zw (p := ⟨zD, _, none⟩) (by first | exact Nat.ne_of_lt (Nat.lt_of_lt_of_le (by have := World.block_lt_of_cell? _ _ hw145_0; first | rwa [zg] at this | exact this) GW131.out) | (rw [zg]; exact Nat.ne_of_lt (Nat.lt_of_lt_of_le (by have := World.block_lt_of_cell? _ _ hw145_0; first | rwa [zg] at this | exact this) GW131.out)) | (show (Addr.add _ _).block ≠ _; rw [zg]; exact Nat.ne_of_lt (Nat.lt_of_lt_of_le (by have := World.block_lt_of_cell? _ _ hw145_0; first | rwa [zg] at this | exact this) GW131.out)) | (dsimp only; exact Nat.ne_of_lt (Nat.lt_of_lt_of_le (by have := World.block_lt_of_cell? _ _ hw145_0; first | rwa [zg] at this | exact this) GW131.out))) _).trans (((zw (p := ⟨zD, _, none⟩) (by first | exact Nat.ne_of_lt (Nat.lt_of_lt_of_le (by have := World.block_lt_of_cell? _ _ hw145_0; first | rwa [zg] at this | exact this) GW131.out) | (rw [zg]; exact Nat.ne_of_lt (Nat.lt_of_lt_of_le (by have := World.block_lt_of_cell? _ _ hw145_0; first | rwa [zg] at this | exact this) GW131.out)) | (show (Addr.add _ _).block ≠ _; rw [zg]; exact Nat.ne_of_lt (Nat.lt_of_lt_of_le (by have := World.block_lt_of_cell? _ _ hw145_0; first | rwa [zg] at this | exact this) GW131.out)) | (dsimp only; exact Nat.ne_of_lt (Nat.lt_of_lt_of_le (by have := World.block_lt_of_cell? _ _ hw145_0; first | rwa [zg] at this | exact this) GW131.out))) _).trans (((zw (p := ⟨zD, _, none⟩) (by first | exact Nat.ne_of_lt (Nat.lt_of_lt_of_le (by have := World.block_lt_of_cell? _ _ hw145_0; first | rwa [zg] at this | exact this) GW131.out) | (rw [zg]; exact Nat.ne_of_lt (Nat.lt_of_lt_of_le (by have := World.block_lt_of_cell? _ _ hw145_0; first | rwa [zg] at this | exact this) GW131.out)) | (show (Addr.add _ _).block ≠ _; rw [zg]; exact Nat.ne_of_lt (Nat.lt_of_lt_of_le (by have := World.block_lt_of_cell? _ _ hw145_0; first | rwa [zg] at this | exact this) GW131.out)) | (dsimp only; exact Nat.ne_of_lt (Nat.lt_of_lt_of_le (by have := World.block_lt_of_cell? _ _ hw145_0; first | rwa [zg] at this | exact this) GW131.out))) _).trans (((zw (p := ⟨zD, _, none⟩) (by first | exact Nat.ne_of_lt (Nat.lt_of_lt_of_le (by have := World.block_lt_of_cell? _ _ hw145_0; first | rwa [zg] at this | exact this) GW131.out) | (rw [zg]; exact Nat.ne_of_lt (Nat.lt_of_lt_of_le (by have := World.block_lt_of_cell? _ _ hw145_0; first | rwa [zg] at this | exact this) GW131.out)) | (show (Addr.add _ _).block ≠ _; rw [zg]; exact Nat.ne_of_lt (Nat.lt_of_lt_of_le (by have := World.block_lt_of_cell? _ _ hw145_0; first | rwa [zg] at this | exact this) GW131.out)) | (dsimp only; exact Nat.ne_of_lt (Nat.lt_of_lt_of_le (by have := World.block_lt_of_cell? _ _ hw145_0; first | rwa [zg] at this | exact this) GW131.out))) _).trans (((zw (p := ⟨zD, _, none⟩) (by first | exact Nat.ne_of_lt (Nat.lt_of_lt_of_le (by have := World.block_lt_of_cell? _ _ hw145_0; first | rwa [zg] at this | exact this) GW131.out) | (rw [zg]; exact Nat.ne_of_lt (Nat.lt_of_lt_of_le (by have := World.block_lt_of_cell? _ _ hw145_0; first | rwa [zg] at this | exact this) GW131.out)) | (show (Addr.add _ _).block ≠ _; rw [zg]; exact Nat.ne_of_lt (Nat.lt_of_lt_of_le (by have := World.block_lt_of_cell? _ _ hw145_0; first | rwa [zg] at this | exact this) GW131.out)) | (dsimp only; exact Nat.ne_of_lt (Nat.lt_of_lt_of_le (by have := World.block_lt_of_cell? _ _ hw145_0; first | rwa [zg] at this | exact this) GW131.out))) _).trans (hHeld.1)))))))))), ((zw (p := ⟨zD, _, none⟩) (by first | exact Nat.ne_of_lt (Nat.lt_of_lt_of_le (by have := World.block_lt_of_cell? _ _ hw146_0; first | rwa [zg] at this | exact this) GW131.out) | (rw [zg]; exact Nat.ne_of_lt (Nat.lt_of_lt_of_le (by have := World.block_lt_of_cell? _ _ hw146_0; first | rwa [zg] at this | exact this) GW131.out)) | (show (Addr.add _ _).block ≠ _; rw [zg]; exact Nat.ne_of_lt (Nat.lt_of_lt_of_le (by have := World.block_lt_of_cell? _ _ hw146_0; first | rwa [zg] at this | exact this) GW131.out)) | (dsimp only; exact Nat.ne_of_lt (Nat.lt_of_lt_of_le (by have := World.block_lt_of_cell? _ _ hw146_0; first | rwa [zg] at this | exact this) GW131.out))) _).trans (((zw (p := ⟨zD, _, none⟩) (by first | exact Nat.ne_of_lt (Nat.lt_of_lt_of_le (by have := World.block_lt_of_cell? _ _ hw146_0; first | rwa [zg] at this | exact this) GW131.out) | (rw [zg]; exact Nat.ne_of_lt (Nat.lt_of_lt_of_le (by have := World.block_lt_of_cell? _ _ hw146_0; first | rwa [zg] at this | exact this) GW131.out)) | (show (Addr.add _ _).block ≠ _; rw [zg]; exact Nat.ne_of_lt (Nat.lt_of_lt_of_le (by have := World.block_lt_of_cell? _ _ hw146_0; first | rwa [zg] at this | exact this) GW131.out)) | (dsimp only; exact Nat.ne_of_lt (Nat.lt_of_lt_of_le (by have := World.block_lt_of_cell? _ _ hw146_0; first | rwa [zg] at this | exact this) GW131.out))) _).trans (((zw (p := ⟨zD, _, none⟩) (by first | exact Nat.ne_of_lt (Nat.lt_of_lt_of_le (by have := World.block_lt_of_cell? _ _ hw146_0; first | rwa [zg] at this | exact this) GW131.out) | (rw [zg]; exact Nat.ne_of_lt (Nat.lt_of_lt_of_le (by have := World.block_lt_of_cell? _ _ hw146_0; first | rwa [zg] at this | exact this) GW131.out)) | (show (Addr.add _ _).block ≠ _; rw [zg]; exact Nat.ne_of_lt (Nat.lt_of_lt_of_le (by have := World.block_lt_of_cell? _ _ hw146_0; first | rwa [zg] at this | exact this) GW131.out)) | (dsimp only; exact Nat.ne_of_lt (Nat.lt_of_lt_of_le (by have := World.block_lt_of_cell? _ _ hw146_0; first | rwa [zg] at this | exact this) GW131.out))) _).trans (((zw (p := ⟨zD, _, none⟩) (by first | exact Nat.ne_of_lt (Nat.lt_of_lt_of_le (by have := World.block_lt_of_cell? _ _ hw146_0; first | rwa [zg] at this | exact this) GW131.out) | (rw [zg]; exact Nat.ne_of_lt (Nat.lt_of_lt_of_le (by have := World.block_lt_of_cell? _ _ hw146_0; first | rwa [zg] at this | exact this) GW131.out)) | (show (Addr.add _ _).block ≠ _; rw [zg]; exact Nat.ne_of_lt (Nat.lt_of_lt_of_le (by have := World.block_lt_of_cell? _ _ hw146_0; first | rwa [zg] at this | exact this) GW131.out)) | (dsimp only; exact Nat.ne_of_lt (Nat.lt_of_lt_of_le (by have := World.block_lt_of_cell? _ _ hw146_0; first | rwa [zg] at this | exact this) GW131.out))) _).trans (((zw (p := ⟨zD, _, none⟩) (by first | exact Nat.ne_of_lt (Nat.lt_of_lt_of_le (by have := World.block_lt_of_cell? _ _ hw146_0; first | rwa [zg] at this | exact this) GW131.out) | (rw [zg]; exact Nat.ne_of_lt (Nat.lt_of_lt_of_le (by have := World.block_lt_of_cell? _ _ hw146_0; first | rwa [zg] at this | exact this) GW131.out)) | (show (Addr.add _ _).block ≠ _; rw [zg]; exact Nat.ne_of_lt (Nat.lt_of_lt_of_le (by have := World.block_lt_of_cell? _ _ hw146_0; first | rwa [zg] at this | exact this) GW131.out)) | (dsimp only; exact Nat.ne_of_lt (Nat.lt_of_lt_of_le (by have := World.block_lt_of_cell? _ _ hw146_0; first | rwa [zg] at this | exact this) GW131.out))) _).trans (hHeld.2))))))))))⟩ (fun hHeld => ?_)
                clear hK K
                refine pu 11 3 rfl rfl (any_of HT_.out (by kernel_rfl)) (fun _ _ _ _ h => h) (by rfl) ⟨_, _, fun w' => by go_simp; rfl, by simp only [pt, ps, p0, p1, zr, zt]; rfl, ?_⟩
                refine done_ (done_of HT_.out (by kernel_rfl)) ?_
                try go_wp2
                refine bodyPost_ret (results_ct rfl _ _ zD 124 #[.int .i64 3, .string (rdOf ByteArray.empty l0 1), .string t147, .int .i64 t143, .bool false] (0, 0) _ rfl (bfin (by (repeat (first | (with_reducible first | refine zf ?_ _ | refine zj ?_ | refine ze ?_ _) | apply zA)); exact zC.out) (by rfl)) Tryd.underlying124 rfl (by kernel_rfl)) rfl ?_
                exact ⟨by first | rfl | (simp [*] <;> rfl), by repeat (first | (with_reducible first | exact HB.out | apply zh | apply zd | apply zi | refine zl ?_ zE.out) | exact HB.out)⟩
               ·rw [if_neg c40] at H
                exact absurd H (by simp)
              ·rw [if_neg c39] at H
               exact absurd H (by simp)
             ·rw [if_neg c37] at H
              exact absurd H (by simp)
            ·replace c36 := Bool.eq_false_iff.mpr c36
             subst c36
             rw [if_neg (show ¬ (false = true) by decide)] at H
             have HC48 := Aside0.mk H
             clear H
             go_upto_region 13 with (fail)
             go_cut [96] (fun v96 wc => ∃ (kq : Nat) (x96_47 : Bool), v96 = .bool x96_47 ∧ Aside0 (spec_l6Op.j4 kq l0 x96_47 = some (r1, r2, r3, r4, r5, r6)) ∧ Aside0 (kq ≤ kj32) ∧ Aside0 (wc.heap[zD]? = some (.cells #[.int .i64 x132000_1, .string x132001_1, .string x132002_1, .int .i64 x132003_1, .bool x132004_1] 124 (0, 0))) ∧ Aside0 (Below w.heap.size w wc))
             case first =>
              have H := HC48.out
              clear HC48
              by_cases c49 : (l0.length : Int) = 3
              ·rw [if_pos c49] at H
               have c49b0 : ((l0.length : Int) == 3) = true := beq_iff_eq.mpr c49
               have c49b1 : ((l0.length : Int) != 3) = false := bne_eq_false_iff_eq.mpr c49
               clear c49
               (first | rw [c49b0] | (simp only [zr, zt]; rw [c49b0]) | skip)
               by_cases c50 : 0 < (l0.length : Int)
               ·rw [if_pos c50] at H
                have c50b0 : decide (0 < (l0.length : Int)) = true := decide_eq_true c50
                have c50b1 : decide (0 < l0.length) = true := decide_eq_true (by omega)
                clear c50
                by_cases c51 : (rdOf ByteArray.empty l0 0).toList = ([100, 101, 108, 101, 116, 101] : List UInt8)
                ·rw [if_pos c51] at H
                 have c51b0 : ((rdOf ByteArray.empty l0 0).toList == ([100, 101, 108, 101, 116, 101] : List UInt8)) = true := beq_iff_eq.mpr c51
                 have c51b1 : ((rdOf ByteArray.empty l0 0).toList != ([100, 101, 108, 101, 116, 101] : List UInt8)) = false := bne_eq_false_iff_eq.mpr c51
                 clear c51
                 have H' := Aside0.mk H
                 clear H
                 have p148 : 0 ≤ (0 : Int) := (by omega)
                 have q148 : 0 < (l0.length : Int) := of_decide_eq_true (by with_reducible assumption)
                 obtain ⟨ad148, e148, hx148_0⟩ := Kd.at_string HR0.out 0 p148 q148
                 cases e148
                 have qi148 : (0 < l0.length) = True := eq_true (by omega)
                 (try rw [show ((0 : Int)).toNat = 0 from rfl] at hx148_0)
                 (try rw [Addr.add_zero'] at hx148_0)
                 replace hx148_0 := zk HB.out hx148_0
                 replace p148 := eq_true p148
                 replace q148 := eq_true q148
                 go_wp2
                 go_meet
                 case rel => exact ⟨_, (true), (by first | rfl | (simp [*]; done)), H', ⟨by have := HK1.out; have := HJ6.out; have := HJ19.out; have := HJ32.out; first | omega | exact Nat.le_refl _⟩, ⟨BL zC.out⟩, ⟨by repeat (first | (with_reducible first | exact HB.out | apply zh | apply zd | apply zi | refine zl ?_ zE.out) | exact HB.out)⟩⟩
                ·rw [if_neg c51] at H
                 have c51b0 : ((rdOf ByteArray.empty l0 0).toList == ([100, 101, 108, 101, 116, 101] : List UInt8)) = false := beq_eq_false_iff_ne.mpr c51
                 have c51b1 : ((rdOf ByteArray.empty l0 0).toList != ([100, 101, 108, 101, 116, 101] : List UInt8)) = true := bne_iff_ne.mpr c51
                 have H' := Aside0.mk H
                 clear H
                 have p148 : 0 ≤ (0 : Int) := (by omega)
                 have q148 : 0 < (l0.length : Int) := of_decide_eq_true (by with_reducible assumption)
                 obtain ⟨ad148, e148, hx148_0⟩ := Kd.at_string HR0.out 0 p148 q148
                 cases e148
                 have qi148 : (0 < l0.length) = True := eq_true (by omega)
                 (try rw [show ((0 : Int)).toNat = 0 from rfl] at hx148_0)
                 (try rw [Addr.add_zero'] at hx148_0)
                 replace hx148_0 := zk HB.out hx148_0
                 replace p148 := eq_true p148
                 replace q148 := eq_true q148
                 have p149 : 0 ≤ (0 : Int) := (by omega)
                 have q149 : 0 < (l0.length : Int) := of_decide_eq_true (by with_reducible assumption)
                 obtain ⟨ad149, e149, hx149_0⟩ := Kd.at_string HR0.out 0 p149 q149
                 obtain rfl : ad148 = ad149 := (by injection e149)
                 have qi149 : (0 < l0.length) = True := eq_true (by omega)
                 (try rw [show ((0 : Int)).toNat = 0 from rfl] at hx149_0)
                 (try rw [Addr.add_zero'] at hx149_0)
                 replace hx149_0 := zk HB.out hx149_0
                 replace p149 := eq_true p149
                 replace q149 := eq_true q149
                 go_wp2
                 go_meet
                 case rel => exact ⟨_, (((rdOf ByteArray.empty l0 0).toList == ([99, 104, 101, 99, 107] : List UInt8))), (by first | rfl | (simp [*]; done)), H', ⟨by have := HK1.out; have := HJ6.out; have := HJ19.out; have := HJ32.out; first | omega | exact Nat.le_refl _⟩, ⟨BL zC.out⟩, ⟨by repeat (first | (with_reducible first | exact HB.out | apply zh | apply zd | apply zi | refine zl ?_ zE.out) | exact HB.out)⟩⟩
               ·rw [if_neg c50] at H
                exact absurd H (by simp)
              ·rw [if_neg c49] at H
               have c49b0 : ((l0.length : Int) == 3) = false := beq_eq_false_iff_ne.mpr c49
               have c49b1 : ((l0.length : Int) != 3) = true := bne_iff_ne.mpr c49
               (first | rw [c49b0] | (simp only [zr, zt]; rw [c49b0]) | skip)
               have H' := Aside0.mk H
               clear H
               go_wp2
               go_meet
               case rel => exact ⟨_, (false), (by first | rfl | (simp [*]; done)), H', ⟨by have := HK1.out; have := HJ6.out; have := HJ19.out; have := HJ32.out; first | omega | exact Nat.le_refl _⟩, ⟨BL zC.out⟩, ⟨by repeat (first | (with_reducible first | exact HB.out | apply zh | apply zd | apply zi | refine zl ?_ zE.out) | exact HB.out)⟩⟩
             case rest =>
              clear HC48
              try clear c1
              try clear p1
              try clear q1
              try clear hx1
              try clear qi1
              try clear c2
              try clear p2
              try clear c3
              try clear c3b0
              try clear c4
              try clear c4b0
              try clear c5
              try clear c5b0
              try clear c5b1
              try clear p6
              try clear c7
              try clear c8
              try clear c8b0
              try clear c8b1
              try clear c9
              try clear c9b0
              try clear c9b1
              try clear c10
              try clear c11
              try clear c11b0
              try clear c11b1
              try clear c12
              try clear c12b0
              try clear c12b1
              try clear p13
              try clear q13
              try clear hx13
              try clear qi13
              try clear p14
              try clear q14
              try clear hx14
              try clear qi14
              try clear c21
              try clear c21b0
              try clear c21b1
              try clear c22
              try clear c22b0
              try clear c22b1
              try clear c23
              try clear c24
              try clear c24b0
              try clear c24b1
              try clear c25
              try clear c25b0
              try clear c25b1
              try clear c34
              try clear c34b0
              try clear c34b1
              try clear c35
              try clear c35b0
              try clear c35b1
              try clear c36
              try clear c37
              try clear c37b0
              try clear c37b1
              try clear c39
              try clear c39b0
              try clear c39b1
              try clear c40
              try clear c40b0
              try clear c40b1
              try clear c49
              try clear c49b0
              try clear c49b1
              try clear c50
              try clear c50b0
              try clear c50b1
              try clear c51
              try clear c51b0
              try clear c51b1
              try clear zF
              try clear zG
              try clear zH
              try clear zI
              try clear zJ
              try clear zK
              try clear zL
              try clear zM
              try clear zN
              try clear zO
              try clear hx132_0
              try clear hx133_0
              try clear hx134_0
              try clear hx135_0
              try clear hx137_0
              try clear hx138_0
              try clear hx139_0
              try clear hx141_0
              try clear hx142_0
              try clear hx145_0
              try clear hx146_0
              try clear hx148_0
              try clear hx149_0
              try clear p1
              try clear p13
              try clear p132
              try clear p133
              try clear p134
              try clear p135
              try clear p137
              try clear p138
              try clear p139
              try clear p14
              try clear p141
              try clear p142
              try clear p145
              try clear p146
              try clear p148
              try clear p149
              try clear p2
              try clear p6
              try clear q1
              try clear q13
              try clear q132
              try clear q133
              try clear q134
              try clear q135
              try clear q137
              try clear q138
              try clear q139
              try clear q14
              try clear q141
              try clear q142
              try clear q145
              try clear q146
              try clear q148
              try clear q149
              obtain ⟨kq, x96_47, rfl, HA, HJ47, zC, HB⟩ := hcut
              cases kq with
              | zero => exact absurd HA.out (by simp [spec_l6Op.j4])
              | succ kj47 =>
               have H := HA.out
               clear HA
               simp only [spec_l6Op.j4] at H
               by_cases c52 : x96_47 = true
               ·subst c52
                rw [if_pos rfl] at H
                by_cases c53 : 2 < (l0.length : Int)
                ·rw [if_pos c53] at H
                 have c53b0 : decide (2 < (l0.length : Int)) = true := decide_eq_true c53
                 have c53b1 : decide (2 < l0.length) = true := decide_eq_true (by omega)
                 clear c53
                 replace H := Option.bind_eq_some_iff.mp H
                 obtain ⟨⟨t151, t152⟩, A540, H⟩ := H
                 try dsimp only at H
                 have A54 := Aside0.mk A540
                 clear A540
                 by_cases c55 : 0 < (l0.length : Int)
                 ·rw [if_pos c55] at H
                  have c55b0 : decide (0 < (l0.length : Int)) = true := decide_eq_true c55
                  have c55b1 : decide (0 < l0.length) = true := decide_eq_true (by omega)
                  clear c55
                  by_cases c56 : (rdOf ByteArray.empty l0 0).toList = ([99, 104, 101, 99, 107] : List UInt8)
                  ·rw [if_pos c56] at H
                   have c56b0 : ((rdOf ByteArray.empty l0 0).toList == ([99, 104, 101, 99, 107] : List UInt8)) = true := beq_iff_eq.mpr c56
                   have c56b1 : ((rdOf ByteArray.empty l0 0).toList != ([99, 104, 101, 99, 107] : List UInt8)) = false := bne_eq_false_iff_eq.mpr c56
                   clear c56
                   by_cases c57 : 1 < (l0.length : Int)
                   ·rw [if_pos c57] at H
                    have c57b0 : decide (1 < (l0.length : Int)) = true := decide_eq_true c57
                    have c57b1 : decide (1 < l0.length) = true := decide_eq_true (by omega)
                    clear c57
                    simp only [Option.some.injEq, Prod.mk.injEq] at H
                    obtain ⟨rfl, rfl, rfl, rfl, rfl, rfl⟩ := H
                    have p150 : 0 ≤ (2 : Int) := (by omega)
                    have q150 : 2 < (l0.length : Int) := of_decide_eq_true (by with_reducible assumption)
                    obtain ⟨ad150, e150, hx150_0⟩ := Kd.at_string HR0.out 2 p150 q150
                    cases e150
                    (try simp only [show (2 : Int).toNat = 2 from rfl, Nat.reduceMul, Nat.reduceEqDiff, Go.Addr.add, ↓reduceIte] at hx150_0)
                    have qi150 : (2 < l0.length) = True := eq_true (by omega)
                    (try rw [show ((2 : Int)).toNat = 2 from rfl] at hx150_0)
                    replace hx150_0 := zk HB.out hx150_0
                    replace p150 := eq_true p150
                    replace q150 := eq_true q150
                    go_wp2_with (first | ((with_reducible refine zo (f := 113) rfl ?_); refine zy (some 101) rfl rfl Tryd.func113 (by kernel_rfl) rfl #[.string (rdOf ByteArray.empty l0 2)] rfl (by (try simp only [List.map_toArray, List.map_cons, List.map_nil]); first | done | rfl) ?_; (with_reducible refine (spec_l6Number.calls kj47 (rdOf ByteArray.empty l0 2) t151 t152 _ A54.out).mono ?_); rintro e w' ⟨rfl, ⟨nd, rfl⟩⟩; refine ⟨_, rfl, ?_⟩; (try (rw [drewN_self wc]; generalize hq_ : World.drewN wc _ = wc; have n0_ : Aside0 (wc.heap[zD]? = some (.cells #[.int .i64 x132000_1, .string x132001_1, .string x132002_1, .int .i64 x132003_1, .bool x132004_1] 124 (0, 0))) := ⟨by rw [← hq_]; exact (BL zC.out)⟩; have n1_ : Aside0 (Below w.heap.size w wc) := ⟨by rw [← hq_]; exact (by exact bl HB.out)⟩; clear zC HB hq_; have zC := n0_; have HB := n1_; clear n0_ n1_)); have p153 : 0 ≤ (0 : Int) := (by omega); have q153 : 0 < (l0.length : Int) := of_decide_eq_true (by with_reducible assumption); obtain ⟨ad153, e153, hx153_0⟩ := Kd.at_string HR0.out 0 p153 q153; obtain rfl : ad150 = ad153 := (by injection e153); have qi153 : (0 < l0.length) = True := eq_true (by omega); (try rw [show ((0 : Int)).toNat = 0 from rfl] at hx153_0); (try rw [Addr.add_zero'] at hx153_0); replace hx153_0 := zk HB.out hx153_0; replace p153 := eq_true p153; replace q153 := eq_true q153; have p154 : 0 ≤ (1 : Int) := (by omega); have q154 : 1 < (l0.length : Int) := of_decide_eq_true (by with_reducible assumption); obtain ⟨ad154, e154, hx154_0⟩ := Kd.at_string HR0.out 1 p154 q154; obtain rfl : ad150 = ad154 := (by injection e154); (try simp only [show (1 : Int).toNat = 1 from rfl, Nat.reduceMul, Nat.reduceEqDiff, Go.Addr.add, ↓reduceIte] at hx154_0); have qi154 : (1 < l0.length) = True := eq_true (by omega); (try rw [show ((1 : Int)).toNat = 1 from rfl] at hx154_0); replace hx154_0 := zk HB.out hx154_0; replace p154 := eq_true p154; replace q154 := eq_true q154; have zP : wc.cell? ⟨zD, 0, none⟩ = some (.int .i64 x132000_1) := (zc zC.out 0).trans rfl; have zQ : wc.cell? ⟨zD, 1, none⟩ = some (.string x132001_1) := (zc zC.out 1).trans rfl; have zR : wc.cell? ⟨zD, 2, none⟩ = some (.string x132002_1) := (zc zC.out 2).trans rfl; have zS : wc.cell? ⟨zD, 3, none⟩ = some (.int .i64 x132003_1) := (zc zC.out 3).trans rfl; have zT : wc.cell? ⟨zD, 4, none⟩ = some (.bool x132004_1) := (zc zC.out 4).trans rfl; have zU := zb zC.out 0; have zV := zb zC.out 1; have zW := zb zC.out 2; have zX := zb zC.out 3; have zY := zb zC.out 4))
                    refine bodyPost_ret (results_ct rfl _ _ zD 124 #[.int .i64 4, .string (rdOf ByteArray.empty l0 1), .string (⟨#[]⟩ : ByteArray), .int .i64 t151, .bool false] (0, 0) _ rfl (bfin (by (repeat (first | (with_reducible first | refine zf ?_ _ | refine zj ?_ | refine ze ?_ _) | apply zA)); exact zC.out) (by rfl)) Tryd.underlying124 rfl (by kernel_rfl)) rfl ?_
                    exact ⟨by first | rfl | (simp [*] <;> rfl), by repeat (first | (with_reducible first | exact HB.out | apply zh | apply zd | apply zi | refine zl ?_ zE.out) | exact HB.out)⟩
                   ·rw [if_neg c57] at H
                    exact absurd H (by simp)
                  ·rw [if_neg c56] at H
                   have c56b0 : ((rdOf ByteArray.empty l0 0).toList == ([99, 104, 101, 99, 107] : List UInt8)) = false := beq_eq_false_iff_ne.mpr c56
                   have c56b1 : ((rdOf ByteArray.empty l0 0).toList != ([99, 104, 101, 99, 107] : List UInt8)) = true := bne_iff_ne.mpr c56
                   by_cases c59 : 1 < (l0.length : Int)
                   ·rw [if_pos c59] at H
                    have c59b0 : decide (1 < (l0.length : Int)) = true := decide_eq_true c59
                    have c59b1 : decide (1 < l0.length) = true := decide_eq_true (by omega)
                    clear c59
                    simp only [Option.some.injEq, Prod.mk.injEq] at H
                    obtain ⟨rfl, rfl, rfl, rfl, rfl, rfl⟩ := H
                    have p150 : 0 ≤ (2 : Int) := (by omega)
                    have q150 : 2 < (l0.length : Int) := of_decide_eq_true (by with_reducible assumption)
                    obtain ⟨ad150, e150, hx150_0⟩ := Kd.at_string HR0.out 2 p150 q150
                    cases e150
                    (try simp only [show (2 : Int).toNat = 2 from rfl, Nat.reduceMul, Nat.reduceEqDiff, Go.Addr.add, ↓reduceIte] at hx150_0)
                    have qi150 : (2 < l0.length) = True := eq_true (by omega)
                    (try rw [show ((2 : Int)).toNat = 2 from rfl] at hx150_0)
                    replace hx150_0 := zk HB.out hx150_0
                    replace p150 := eq_true p150
                    replace q150 := eq_true q150
                    go_wp2_with (first | ((with_reducible refine zo (f := 113) rfl ?_); refine zy (some 101) rfl rfl Tryd.func113 (by kernel_rfl) rfl #[.string (rdOf ByteArray.empty l0 2)] rfl (by (try simp only [List.map_toArray, List.map_cons, List.map_nil]); first | done | rfl) ?_; (with_reducible refine (spec_l6Number.calls kj47 (rdOf ByteArray.empty l0 2) t151 t152 _ A54.out).mono ?_); rintro e w' ⟨rfl, ⟨nd, rfl⟩⟩; refine ⟨_, rfl, ?_⟩; (try (rw [drewN_self wc]; generalize hq_ : World.drewN wc _ = wc; have n0_ : Aside0 (wc.heap[zD]? = some (.cells #[.int .i64 x132000_1, .string x132001_1, .string x132002_1, .int .i64 x132003_1, .bool x132004_1] 124 (0, 0))) := ⟨by rw [← hq_]; exact (BL zC.out)⟩; have n1_ : Aside0 (Below w.heap.size w wc) := ⟨by rw [← hq_]; exact (by exact bl HB.out)⟩; clear zC HB hq_; have zC := n0_; have HB := n1_; clear n0_ n1_)); have p153 : 0 ≤ (0 : Int) := (by omega); have q153 : 0 < (l0.length : Int) := of_decide_eq_true (by with_reducible assumption); obtain ⟨ad153, e153, hx153_0⟩ := Kd.at_string HR0.out 0 p153 q153; obtain rfl : ad150 = ad153 := (by injection e153); have qi153 : (0 < l0.length) = True := eq_true (by omega); (try rw [show ((0 : Int)).toNat = 0 from rfl] at hx153_0); (try rw [Addr.add_zero'] at hx153_0); replace hx153_0 := zk HB.out hx153_0; replace p153 := eq_true p153; replace q153 := eq_true q153; have p155 : 0 ≤ (1 : Int) := (by omega); have q155 : 1 < (l0.length : Int) := of_decide_eq_true (by with_reducible assumption); obtain ⟨ad155, e155, hx155_0⟩ := Kd.at_string HR0.out 1 p155 q155; obtain rfl : ad150 = ad155 := (by injection e155); (try simp only [show (1 : Int).toNat = 1 from rfl, Nat.reduceMul, Nat.reduceEqDiff, Go.Addr.add, ↓reduceIte] at hx155_0); have qi155 : (1 < l0.length) = True := eq_true (by omega); (try rw [show ((1 : Int)).toNat = 1 from rfl] at hx155_0); replace hx155_0 := zk HB.out hx155_0; replace p155 := eq_true p155; replace q155 := eq_true q155; have zZ : wc.cell? ⟨zD, 0, none⟩ = some (.int .i64 x132000_1) := (zc zC.out 0).trans rfl; have zab : wc.cell? ⟨zD, 1, none⟩ = some (.string x132001_1) := (zc zC.out 1).trans rfl; have zbb : wc.cell? ⟨zD, 2, none⟩ = some (.string x132002_1) := (zc zC.out 2).trans rfl; have zcb : wc.cell? ⟨zD, 3, none⟩ = some (.int .i64 x132003_1) := (zc zC.out 3).trans rfl; have zdb : wc.cell? ⟨zD, 4, none⟩ = some (.bool x132004_1) := (zc zC.out 4).trans rfl; have zeb := zb zC.out 0; have zfb := zb zC.out 1; have zgb := zb zC.out 2; have zhb := zb zC.out 3; have zib := zb zC.out 4))
                    refine bodyPost_ret (results_ct rfl _ _ zD 124 #[.int .i64 2, .string (rdOf ByteArray.empty l0 1), .string (⟨#[]⟩ : ByteArray), .int .i64 t151, .bool false] (0, 0) _ rfl (bfin (by (repeat (first | (with_reducible first | refine zf ?_ _ | refine zj ?_ | refine ze ?_ _) | apply zA)); exact zC.out) (by rfl)) Tryd.underlying124 rfl (by kernel_rfl)) rfl ?_
                    exact ⟨by first | rfl | (simp [*] <;> rfl), by repeat (first | (with_reducible first | exact HB.out | apply zh | apply zd | apply zi | refine zl ?_ zE.out) | exact HB.out)⟩
                   ·rw [if_neg c59] at H
                    exact absurd H (by simp)
                 ·rw [if_neg c55] at H
                  exact absurd H (by simp)
                ·rw [if_neg c53] at H
                 exact absurd H (by simp)
               ·replace c52 := Bool.eq_false_iff.mpr c52
                subst c52
                rw [if_neg (show ¬ (false = true) by decide)] at H
                simp only [Option.some.injEq, Prod.mk.injEq] at H
                obtain ⟨rfl, rfl, rfl, rfl, rfl, rfl⟩ := H
                have zjb : wc.cell? ⟨zD, 0, none⟩ = some (.int .i64 x132000_1) := (zc zC.out 0).trans rfl
                have zkb : wc.cell? ⟨zD, 1, none⟩ = some (.string x132001_1) := (zc zC.out 1).trans rfl
                have zlb : wc.cell? ⟨zD, 2, none⟩ = some (.string x132002_1) := (zc zC.out 2).trans rfl
                have zmb : wc.cell? ⟨zD, 3, none⟩ = some (.int .i64 x132003_1) := (zc zC.out 3).trans rfl
                have znb : wc.cell? ⟨zD, 4, none⟩ = some (.bool x132004_1) := (zc zC.out 4).trans rfl
                have zob := zb zC.out 0
                have zpb := zb zC.out 1
                have zqb := zb zC.out 2
                have zrb := zb zC.out 3
                have zsb := zb zC.out 4
                go_wp2
                refine bodyPost_ret (results_ct rfl _ _ zD 124 #[.int .i64 0, .string (⟨#[]⟩ : ByteArray), .string (⟨#[]⟩ : ByteArray), .int .i64 0, .bool false] (0, 0) _ rfl (bfin (by (repeat (first | (with_reducible first | refine zf ?_ _ | refine zj ?_ | refine ze ?_ _) | apply zA)); exact zC.out) (by rfl)) Tryd.underlying124 rfl (by kernel_rfl)) rfl ?_
                exact ⟨by first | rfl | (simp [*] <;> rfl), by repeat (first | (with_reducible first | exact HB.out | apply zh | apply zd | apply zi | refine zl ?_ zE.out) | exact HB.out)⟩

mutual
def spec_l6Ops.j1 : Nat → List ByteArray → Int → Option ((List (S124)) × Bool)
 | 0, _, _ => none
 | k + 1, x0, x4 => if 0 ≤ x4 then (if x4 ≤ (x0.length : Int) then ((spec_l6Op.f k (x0.take (x4 : Int).toNat)).bind fun bt158 => (if bt158.2.2.2.2.2 = true then (if x4 = (x0.length : Int) then (some ((([(⟨bt158.1, bt158.2.1, bt158.2.2.1, bt158.2.2.2.1, bt158.2.2.2.2.1⟩ : S124)] : List (S124))), bt158.2.2.2.2.2)) else (if 0 ≤ (wrap64 (x4 + 1)) then (if (wrap64 (x4 + 1)) ≤ (x0.length : Int) then ((spec_l6Ops.f k (x0.drop ((wrap64 (x4 + 1)) : Int).toNat)).bind fun bt169 => ((some (([(⟨bt158.1, bt158.2.1, bt158.2.2.1, bt158.2.2.2.1, bt158.2.2.2.2.1⟩ : S124)] : List (S124)) : List (S124))).bind fun y173 => (if y173.length + bt169.1.length < 2513169434916 then (some ((y173 ++ bt169.1), bt169.2)) else (none)))) else (none)) else (none))) else (some ((([(⟨bt158.1, bt158.2.1, bt158.2.2.1, bt158.2.2.2.1, bt158.2.2.2.2.1⟩ : S124)] : List (S124))), bt158.2.2.2.2.2)))) else (none)) else (none)
def spec_l6Ops.l0 : Nat → List ByteArray → Int → Option ((List (S124)) × Bool)
 | 0, _, _ => none
 | k + 1, x0, x4 => if x4 < (x0.length : Int) then (if 0 ≤ x4 then (if (rdOf ByteArray.empty x0 x4).toList = ([59] : List UInt8) then (spec_l6Ops.j1 k x0 x4) else (spec_l6Ops.l0 k x0 (wrap64 (x4 + 1)))) else (none)) else (spec_l6Ops.j1 k x0 x4)
def spec_l6Ops.f : Nat → List ByteArray → Option ((List (S124)) × Bool)
 | 0, _ => none
 | k + 1, l0 => spec_l6Ops.l0 k l0 0
end
theorem spec_l6Ops.mono_l : ∀ k, (∀ y0, LeO (spec_l6Ops.f k y0) (spec_l6Ops.f (k + 1) y0)) ∧ (∀ y0 y1, LeO (spec_l6Ops.j1 k y0 y1) (spec_l6Ops.j1 (k + 1) y0 y1)) ∧ (∀ y0 y1, LeO (spec_l6Ops.l0 k y0 y1) (spec_l6Ops.l0 (k + 1) y0 y1))
 | 0 => ⟨fun _ r h => by simp [spec_l6Ops.f] at h, fun _ _ r h => by simp [spec_l6Ops.j1] at h, fun _ _ r h => by simp [spec_l6Ops.l0] at h⟩
 | k + 1 => by
  obtain ⟨ih0, ih1, ih2⟩ := spec_l6Ops.mono_l k
  refine ⟨?_, ?_, ?_⟩
  ·intro y0
   unfold spec_l6Ops.f
   repeat' first
   | (with_reducible exact ih0 _)
   | (with_reducible exact ih1 _ _)
   | (with_reducible exact ih2 _ _)
   | (with_reducible exact spec_l6Op.mono _ _)
   | (with_reducible exact LeO.refl _)
   | (with_reducible exact LeO.none _)
   | (with_reducible refine LeO.ite ?_ ?_)
   | (with_reducible refine LeO.bind ?_ (fun _ => ?_))
   | exact ih0 _
   | exact ih1 _ _
   | exact ih2 _ _
   | exact spec_l6Op.mono _ _
   | exact LeO.none _
   | refine LeO.ite ?_ ?_
   | refine LeO.bind ?_ (fun _ => ?_)
  ·intro y0 y1
   unfold spec_l6Ops.j1
   repeat' first
   | (with_reducible exact ih0 _)
   | (with_reducible exact ih1 _ _)
   | (with_reducible exact ih2 _ _)
   | (with_reducible exact spec_l6Op.mono _ _)
   | (with_reducible exact LeO.refl _)
   | (with_reducible exact LeO.none _)
   | (with_reducible refine LeO.ite ?_ ?_)
   | (with_reducible refine LeO.bind ?_ (fun _ => ?_))
   | exact ih0 _
   | exact ih1 _ _
   | exact ih2 _ _
   | exact spec_l6Op.mono _ _
   | exact LeO.none _
   | refine LeO.ite ?_ ?_
   | refine LeO.bind ?_ (fun _ => ?_)
  ·intro y0 y1
   unfold spec_l6Ops.l0
   repeat' first
   | (with_reducible exact ih0 _)
   | (with_reducible exact ih1 _ _)
   | (with_reducible exact ih2 _ _)
   | (with_reducible exact spec_l6Op.mono _ _)
   | (with_reducible exact LeO.refl _)
   | (with_reducible exact LeO.none _)
   | (with_reducible refine LeO.ite ?_ ?_)
   | (with_reducible refine LeO.bind ?_ (fun _ => ?_))
   | exact ih0 _
   | exact ih1 _ _
   | exact ih2 _ _
   | exact spec_l6Op.mono _ _
   | exact LeO.none _
   | refine LeO.ite ?_ ?_
   | refine LeO.bind ?_ (fun _ => ?_)
theorem spec_l6Ops.mono : ∀ a0 k, LeO (spec_l6Ops.f k a0) (spec_l6Ops.f (k + 1) a0) := by
 intro a0 k
 obtain ⟨ih0, ih1, ih2⟩ := spec_l6Ops.mono_l k
 exact ih0 a0
set_option maxHeartbeats 8000000 in
set_option maxRecDepth 100000 in
theorem spec_l6Ops.calls (k : Nat) : ∀ (A0 : Option Addr) (c0 : Nat) (l0 : List ByteArray) (r1 : List (S124)) (r2 : Bool) (w : World) (hr0 : Kd.C Kd.string w A0 l0.length l0) (hc0 : l0.length ≤ c0) (h : spec_l6Ops.f k l0 = some (r1, r2)),
  Calls Tryd.prog 73 #[.slice A0 l0.length c0] w fun e w' => ∃ v0_ : Value, e = .returned (.tuple #[v0_, .bool r2]) ∧ Kd.R k124 124 w' w.heap.size (fun _ => True) v0_ r1 ∧ Below w.heap.size w w' := by
 induction k using Nat.strongRecOn with
 | _ k ih =>
 intro A0 c0 l0 r1 r2 w hr0 hc0 h
 cases k with
 | zero => exact absurd h (by simp [spec_l6Ops.f])
 | succ k =>
 simp only [spec_l6Ops.f] at h
 have hu124 := Tryd.underlying124
 have HR0 := Aside0.mk hr0
 have HC0 := Aside0.mk hc0
 clear hr0 hc0
 have HB := Aside0.mk (Below.refl w.heap.size w)
 have H : (spec_l6Ops.l0 k l0 0) = some (r1, r2) := h
 clear h
 have HC2 := Aside0.mk H
 clear H
 go_enter Tryd.func73, Tryd.ntmps73
 go_upto_block 0 with (fail)
 go_cut [4] (fun v4 wc => ∃ (kq : Nat) (x4_1 : Int), v4 = .int .i64 x4_1 ∧ Aside0 (spec_l6Ops.j1 kq l0 x4_1 = some (r1, r2)) ∧ Aside0 (kq ≤ k) ∧ Aside0 (Below w.heap.size w wc))
 case first =>
  have H := HC2.out
  clear HC2
  have H' := Aside0.mk H
  clear H
  go_wp2
  go_loopg [4] k (fun kq v4 w' => ∃ (x4_1 : Int), v4 = .int .i64 x4_1 ∧ Aside0 (spec_l6Ops.l0 kq l0 x4_1 = some (r1, r2)) ∧ Aside0 (kq ≤ k) ∧ Aside0 (Below w.heap.size w w'))
  case atStart => exact ⟨(0), (by first | rfl | (simp [*]; done)), H', ⟨Nat.le_refl _⟩, ⟨by repeat (first | (with_reducible first | exact HB.out | apply zh | apply zd | apply zi) | exact HB.out)⟩⟩
  case round =>
   clear H'
   try clear p2
   obtain ⟨x4_1, rfl, HA, HK1, HB⟩ := hrel
   cases gk with
   | zero => exact absurd HA.out (by simp [spec_l6Ops.l0])
   | succ k1 =>
    have H := HA.out
    clear HA
    simp only [spec_l6Ops.l0] at H
    by_cases c3 : x4_1 < (l0.length : Int)
    ·rw [if_pos c3] at H
     have c3b0 : decide (x4_1 < (l0.length : Int)) = true := decide_eq_true c3
     clear c3
     (first | rw [c3b0] | (simp only [zr, zt]; rw [c3b0]) | skip)
     by_cases c4 : 0 ≤ x4_1
     ·rw [if_pos c4] at H
      have c4b0 : decide (0 ≤ x4_1) = true := decide_eq_true c4
      clear c4
      by_cases c5 : (rdOf ByteArray.empty l0 x4_1).toList = ([59] : List UInt8)
      ·rw [if_pos c5] at H
       have c5b0 : ((rdOf ByteArray.empty l0 x4_1).toList == ([59] : List UInt8)) = true := beq_iff_eq.mpr c5
       have c5b1 : ((rdOf ByteArray.empty l0 x4_1).toList != ([59] : List UInt8)) = false := bne_eq_false_iff_eq.mpr c5
       clear c5
       have H' := Aside0.mk H
       clear H
       have p156 : 0 ≤ (x4_1 : Int) := of_decide_eq_true (by with_reducible assumption)
       have q156 : x4_1 < (l0.length : Int) := of_decide_eq_true (by with_reducible assumption)
       obtain ⟨ad156, e156, hx156_0⟩ := Kd.at_string HR0.out x4_1 p156 q156
       cases e156
       replace hx156_0 := zk HB.out hx156_0
       replace p156 := eq_true p156
       replace q156 := eq_true q156
       go_wp2
       go_meet
       case rel => exact ⟨_, (x4_1), (by first | rfl | (simp [*]; done)), H', ⟨by have := HK1.out; first | omega | exact Nat.le_refl _⟩, ⟨by repeat (first | (with_reducible first | exact HB.out | apply zh | apply zd | apply zi) | exact HB.out)⟩⟩
      ·rw [if_neg c5] at H
       have c5b0 : ((rdOf ByteArray.empty l0 x4_1).toList == ([59] : List UInt8)) = false := beq_eq_false_iff_ne.mpr c5
       have c5b1 : ((rdOf ByteArray.empty l0 x4_1).toList != ([59] : List UInt8)) = true := bne_iff_ne.mpr c5
       have H' := Aside0.mk H
       clear H
       have p156 : 0 ≤ (x4_1 : Int) := of_decide_eq_true (by with_reducible assumption)
       have q156 : x4_1 < (l0.length : Int) := of_decide_eq_true (by with_reducible assumption)
       obtain ⟨ad156, e156, hx156_0⟩ := Kd.at_string HR0.out x4_1 p156 q156
       cases e156
       replace hx156_0 := zk HB.out hx156_0
       replace p156 := eq_true p156
       replace q156 := eq_true q156
       go_wp2
       go_roundg k1
       case measure => have := HK1.out; omega
       case rel => exact ⟨(wrap64 (x4_1 + 1)), (by first | rfl | (simp [*]; done)), H', ⟨by have := HK1.out; omega⟩, ⟨by repeat (first | (with_reducible first | exact HB.out | apply zh | apply zd | apply zi) | exact HB.out)⟩⟩
     ·rw [if_neg c4] at H
      exact absurd H (by simp)
    ·rw [if_neg c3] at H
     have c3b0 : decide (x4_1 < (l0.length : Int)) = false := decide_eq_false c3
     clear c3
     (first | rw [c3b0] | (simp only [zr, zt]; rw [c3b0]) | skip)
     have H' := Aside0.mk H
     clear H
     go_wp2
     go_meet
     case rel => exact ⟨_, (x4_1), (by first | rfl | (simp [*]; done)), H', ⟨by have := HK1.out; first | omega | exact Nat.le_refl _⟩, ⟨by repeat (first | (with_reducible first | exact HB.out | apply zh | apply zd | apply zi) | exact HB.out)⟩⟩
 case rest =>
  clear HC2
  try clear p1
  try clear q1
  try clear hx1
  try clear p2
  try clear c3
  try clear c3b0
  try clear c4
  try clear c4b0
  try clear c5
  try clear c5b0
  try clear c5b1
  try clear hx156_0
  try clear p156
  try clear p2
  try clear q156
  obtain ⟨kq, x4_1, rfl, HA, HJ1, HB⟩ := hcut
  cases kq with
  | zero => exact absurd HA.out (by simp [spec_l6Ops.j1])
  | succ kj1 =>
   have H := HA.out
   clear HA
   simp only [spec_l6Ops.j1] at H
   by_cases c6 : 0 ≤ x4_1
   ·rw [if_pos c6] at H
    have c6b0 := eq_true c6
    have c6b1 : decide (0 ≤ x4_1) = true := decide_eq_true c6
    clear c6
    by_cases c7 : x4_1 ≤ (l0.length : Int)
    ·rw [if_pos c7] at H
     have c7b0 := eq_true c7
     have c7b1 : decide (x4_1 ≤ (l0.length : Int)) = true := decide_eq_true c7
     clear c7
     replace H := Option.bind_eq_some_iff.mp H
     obtain ⟨⟨t158, t159, t160, t161, t162, t163⟩, A80, H⟩ := H
     try dsimp only at H
     have A8 := Aside0.mk A80
     clear A80
     by_cases c9 : t163 = true
     ·subst c9
      rw [if_pos rfl] at H
      by_cases c10 : x4_1 = (l0.length : Int)
      ·rw [if_pos c10] at H
       have c10b0 : (x4_1 == (l0.length : Int)) = true := beq_iff_eq.mpr c10
       have c10b1 : (x4_1 != (l0.length : Int)) = false := bne_eq_false_iff_eq.mpr c10
       clear c10
       obtain ⟨y165, hy165⟩ : ∃ y_ : List (S124), y_ = (([(⟨t158, t159, t160, t161, t162⟩ : S124)] : List (S124))) := ⟨_, rfl⟩
       replace H : (some (y165, true)) = some (r1, r2) := by first | (rw [hy165]; with_reducible exact H) | (have H2_ := (Option.bind_some _ _).symm.trans H; rw [hy165]; with_reducible exact H2_) | (have H2_ := (Option.bind_some _ _).symm.trans H; with_reducible exact H2_) | with_reducible exact H | (rw [hy165]; exact H) | exact H
       have Ny165 := Aside0.mk hy165
       clear hy165
       simp only [Option.some.injEq, Prod.mk.injEq] at H
       obtain ⟨rfl, rfl⟩ := H
       obtain ⟨i011, hi011, _, hsz11, _⟩ := info_parts info9
       obtain ⟨hcut11, hA11, hC11⟩ := print_take_of (P := Tryd.prog) Value.string (⟨#[]⟩ : ByteArray) 119 9 .i64 Tryd.underlying119 hi011 hsz11 A0 c0 l0 x4_1 (of_decide_eq_true (by with_reducible assumption)) (of_decide_eq_true (by with_reducible assumption)) HC0.out
       have HR157 := Aside0.mk (Kd.C_of_reads (h1 := fun _ => rfl) (hA11 _ (Kd.reads_of_C HR0.out)))
       have HC157 := Aside0.mk hC11
       clear hA11 hC11 hi011 hsz11
       go_wp2_with (first | ((with_reducible refine zo (f := 74) rfl ?_); refine zy (some 26) rfl rfl Tryd.func74 (by kernel_rfl) rfl #[.slice A0 (l0.take (x4_1 : Int).toNat).length c0] rfl (by (try simp only [List.map_toArray, List.map_cons, List.map_nil]); first | done | (rw [show (l0.take (x4_1 : Int).toNat).length = x4_1.toNat from (by rw [List.length_take]; have h_ : (x4_1 : Int) ≤ (l0.length : Int) := of_decide_eq_true (by with_reducible assumption); omega)] <;> rfl) | rfl | (simp only [List.length_drop, List.length_take]; rfl)) ?_; (with_reducible refine (spec_l6Op.calls kj1 _ _ (l0.take (x4_1 : Int).toNat) t158 t159 t160 t161 t162 true _ ?side1 ?side2 A8.out).mono ?_); (case side1 => repeat (first | exact (Kd.C_below HR157.out HB.out) | (with_reducible refine Kd.C_alloc ?_ _) | (with_reducible refine Kd.C_drewN ?_ _) | (with_reducible refine Kd.C_drew ?_))); (case side2 => exact HC157.out); rintro e w12 ⟨rfl, hb⟩; refine ⟨_, rfl, ?_⟩; have n0_ := Aside0.mk (zm (by exact bl HB.out) hb); clear HB; have HB := n0_; clear n0_; (try clear hb); (try clear hb2); (try clear hk); (try clear hi)) | ((with_reducible refine zu (N := 5) rfl ?_); (try (refine gate_guard (by rfl) ?_; dsimp only)); refine zz ?hg (N := 5) ?hd (cs := #[.int .i64 0, .string (⟨#[]⟩ : ByteArray), .string (⟨#[]⟩ : ByteArray), .int .i64 0, .bool false]) (t := 124) ?hr ?_; (case hd => rfl); (case hg => rfl); (case hr => first | (go_simp; done) | (go_simp; rfl)); intro zD hg w13 hbox hb; have n0_ := Aside0.mk (zm (by exact bl HB.out) hb); have n1_ := Aside0.mk (hbox); have n2_ := Aside0.mk ((by rw [hg]; exact (zn (by exact bl HB.out)) : w.heap.size ≤ zD)); have n3_ := Aside0.mk ((by rw [hg]; exact (zn (by exact bl HB.out)) : w.heap.size ≤ zD)); clear HB; have HB := n0_; have zC := n1_; have GW164 := n2_; have zE := n3_; clear n0_ n1_ n2_ n3_; clear hb hbox hg; have zO : w13.cell? ⟨zD, 0, none⟩ = some (.int .i64 0) := (zc zC.out 0).trans rfl; have zP : w13.cell? ⟨zD, 1, none⟩ = some (.string (⟨#[]⟩ : ByteArray)) := (zc zC.out 1).trans rfl; have zQ : w13.cell? ⟨zD, 2, none⟩ = some (.string (⟨#[]⟩ : ByteArray)) := (zc zC.out 2).trans rfl; have zR : w13.cell? ⟨zD, 3, none⟩ = some (.int .i64 0) := (zc zC.out 3).trans rfl; have zS : w13.cell? ⟨zD, 4, none⟩ = some (.bool false) := (zc zC.out 4).trans rfl; have zT := zb zC.out 0; have zU := zb zC.out 1; have zV := zb zC.out 2; have zW := zb zC.out 3; have zX := zb zC.out 4) | ((with_reducible refine zu (N := 38) rfl ?_); (try (refine gate_guard (by rfl) ?_; dsimp only)); refine Kd.R_lit k124 _ 124 ?hg (N := 38) ?hd (xs := ([(⟨t158, t159, t160, t161, t162⟩ : S124)] : List (S124))) (inner := [.int .i64 t158, .string t159, .string t160, .int .i64 t161, .bool t162]) (ok := fun _ => True) (okp := fun _ => True) ?hr ?hp (fun _ hk => hk) trivial (Below.refl _ _) (Nat.le_refl _) (by simp) ?_; (case hd => rfl); (case hg => rfl); (case hr => first | (go_simp; done) | (go_simp; rfl)); (case hp => exact (Reps.c5 (show Kd.M k124 _ _ _ (⟨t158, t159, t160, t161, t162⟩ : S124) [.int .i64 t158, .string t159, .string t160, .int .i64 t161, .bool t162] from (k124_mkM _ _ _ (⟨t158, t159, t160, t161, t162⟩ : S124) )) (Reps.none _ _))); intro v166 w15 zH hb hg_ hnew_; clear hg_ hnew_; (first | rw [← Ny165.out] at zH | (simp only [Int.reduceToNat] at zH; rw [← Ny165.out] at zH)); have n0_ := Aside0.mk (Kd.R_lower (Kd.R_newB zH (g := zD) (o := .cells #[.int .i64 t158, .string t159, .string t160, .int .i64 t161, .bool t162] 124 (0, 0)) (bfin (by (repeat (first | (with_reducible first | refine zf ?_ _ | refine zj ?_ | refine ze ?_ _) | apply zA)); exact zC.out) (by rfl))) (zn (by repeat (first | (with_reducible first | exact HB.out | apply zh | apply zd | apply zi | refine zl ?_ zE.out) | exact HB.out)))); have n1_ := Aside0.mk (zp (g := zD) (o := .cells #[.int .i64 t158, .string t159, .string t160, .int .i64 t161, .bool t162] 124 (0, 0)) (bfin (by (repeat (first | (with_reducible first | refine zf ?_ _ | refine zj ?_ | refine ze ?_ _) | apply zA)); exact zC.out) (by rfl)) hb); have n2_ := Aside0.mk (zm (by repeat (first | (with_reducible first | exact HB.out | apply zh | apply zd | apply zi | refine zl ?_ zE.out) | exact HB.out)) hb); clear zC; clear HB; have zK := n0_; have zC := n1_; have HB := n2_; clear n0_ n1_ n2_; clear hb zH))
       go_ret2
       exact ⟨_, by first | rfl | (simp [*] <;> rfl), RL (Kd.R_mono zK.out (fun _ hk => trivial)), by repeat (first | (with_reducible first | exact HB.out | apply zh | apply zd | apply zi | refine zl ?_ zE.out) | exact HB.out)⟩
      ·rw [if_neg c10] at H
       have c10b0 : (x4_1 == (l0.length : Int)) = false := beq_eq_false_iff_ne.mpr c10
       have c10b1 : (x4_1 != (l0.length : Int)) = true := bne_iff_ne.mpr c10
       obtain ⟨ji17, hji17⟩ : ∃ j_ : Int, (wrap64 (x4_1 + 1)) = j_ := ⟨_, rfl⟩
       replace H : (if 0 ≤ (ji17) then (if (ji17) ≤ (l0.length : Int) then ((spec_l6Ops.f kj1 (l0.drop ((ji17) : Int).toNat)).bind fun bt169 => ((some (([(⟨t158, t159, t160, t161, t162⟩ : S124)] : List (S124)) : List (S124))).bind fun y173 => (if y173.length + bt169.1.length < 2513169434916 then (some ((y173 ++ bt169.1), bt169.2)) else (none)))) else (none)) else (none)) = some (r1, r2) := by first | (rw [hji17] at H; exact H) | (simp only [hji17] at H ⊢; exact H)
       (try rw [hji17] at A8)
       have hji17w : (IntKind.i64.wrap (x4_1 + 1)) = ji17 := (zr _).trans hji17
       by_cases c18 : 0 ≤ (ji17)
       ·rw [if_pos c18] at H
        have c18b0 := eq_true c18
        have c18b1 : decide (0 ≤ (ji17)) = true := decide_eq_true c18
        clear c18
        by_cases c19 : (ji17) ≤ (l0.length : Int)
        ·rw [if_pos c19] at H
         have c19b0 := eq_true c19
         have c19b1 : decide ((ji17) ≤ (l0.length : Int)) = true := decide_eq_true c19
         clear c19
         replace H := Option.bind_eq_some_iff.mp H
         obtain ⟨⟨t169, t170⟩, A200, H⟩ := H
         try dsimp only at H
         have A20 := Aside0.mk A200
         clear A200
         obtain ⟨y173, hy173⟩ : ∃ y_ : List (S124), y_ = (([(⟨t158, t159, t160, t161, t162⟩ : S124)] : List (S124))) := ⟨_, rfl⟩
         replace H : (if y173.length + t169.length < 2513169434916 then (some ((y173 ++ t169), t170)) else (none)) = some (r1, r2) := by first | (rw [hy173]; with_reducible exact H) | (have H2_ := (Option.bind_some _ _).symm.trans H; rw [hy173]; with_reducible exact H2_) | (have H2_ := (Option.bind_some _ _).symm.trans H; with_reducible exact H2_) | with_reducible exact H | (rw [hy173]; exact H) | exact H
         have Ny173 := Aside0.mk hy173
         clear hy173
         by_cases c21 : y173.length + t169.length < 2513169434916
         ·rw [if_pos c21] at H
          have LMc21 := Aside0.mk c21
          clear c21
          obtain ⟨y176, hy176⟩ : ∃ y_ : List (S124), y_ = (y173 ++ t169) := ⟨_, rfl⟩
          replace H : (some (y176, t170)) = some (r1, r2) := by first | (rw [hy176]; with_reducible exact H) | (have H2_ := (Option.bind_some _ _).symm.trans H; rw [hy176]; with_reducible exact H2_) | (have H2_ := (Option.bind_some _ _).symm.trans H; with_reducible exact H2_) | with_reducible exact H | (rw [hy176]; exact H) | exact H
          have Ny176 := Aside0.mk hy176
          clear hy176
          simp only [Option.some.injEq, Prod.mk.injEq] at H
          obtain ⟨rfl, rfl⟩ := H
          obtain ⟨i022, hi022, _, hsz22, _⟩ := info_parts info9
          obtain ⟨hcut22, hA22, hC22⟩ := print_take_of (P := Tryd.prog) Value.string (⟨#[]⟩ : ByteArray) 119 9 .i64 Tryd.underlying119 hi022 hsz22 A0 c0 l0 x4_1 (of_decide_eq_true (by with_reducible assumption)) (of_decide_eq_true (by with_reducible assumption)) HC0.out
          have HR157 := Aside0.mk (Kd.C_of_reads (h1 := fun _ => rfl) (hA22 _ (Kd.reads_of_C HR0.out)))
          have HC157 := Aside0.mk hC22
          clear hA22 hC22 hi022 hsz22
          go_wp2_with (first | ((with_reducible refine zo (f := 74) rfl ?_); refine zy (some 26) rfl rfl Tryd.func74 (by kernel_rfl) rfl #[.slice A0 (l0.take (x4_1 : Int).toNat).length c0] rfl (by (try simp only [List.map_toArray, List.map_cons, List.map_nil]); first | done | (rw [show (l0.take (x4_1 : Int).toNat).length = x4_1.toNat from (by rw [List.length_take]; have h_ : (x4_1 : Int) ≤ (l0.length : Int) := of_decide_eq_true (by with_reducible assumption); omega)] <;> rfl) | rfl | (simp only [List.length_drop, List.length_take]; rfl)) ?_; (with_reducible refine (spec_l6Op.calls kj1 _ _ (l0.take (x4_1 : Int).toNat) t158 t159 t160 t161 t162 true _ ?side1 ?side2 A8.out).mono ?_); (case side1 => repeat (first | exact (Kd.C_below HR157.out HB.out) | (with_reducible refine Kd.C_alloc ?_ _) | (with_reducible refine Kd.C_drewN ?_ _) | (with_reducible refine Kd.C_drew ?_))); (case side2 => exact HC157.out); rintro e w23 ⟨rfl, hb⟩; refine ⟨_, rfl, ?_⟩; have n0_ := Aside0.mk (zm (by exact bl HB.out) hb); clear HB; have HB := n0_; clear n0_; (try clear hb); (try clear hb2); (try clear hk); (try clear hi)) | ((with_reducible refine zu (N := 5) rfl ?_); (try (refine gate_guard (by rfl) ?_; dsimp only)); refine zz ?hg (N := 5) ?hd (cs := #[.int .i64 0, .string (⟨#[]⟩ : ByteArray), .string (⟨#[]⟩ : ByteArray), .int .i64 0, .bool false]) (t := 124) ?hr ?_; (case hd => rfl); (case hg => rfl); (case hr => first | (go_simp; done) | (go_simp; rfl)); intro zD hg w24 hbox hb; have n0_ := Aside0.mk (zm (by exact bl HB.out) hb); have n1_ := Aside0.mk (hbox); have n2_ := Aside0.mk ((by rw [hg]; exact (zn (by exact bl HB.out)) : w.heap.size ≤ zD)); have n3_ := Aside0.mk ((by rw [hg]; exact (zn (by exact bl HB.out)) : w.heap.size ≤ zD)); clear HB; have HB := n0_; have zC := n1_; have GW164 := n2_; have zE := n3_; clear n0_ n1_ n2_ n3_; clear hb hbox hg; have zY : w24.cell? ⟨zD, 0, none⟩ = some (.int .i64 0) := (zc zC.out 0).trans rfl; have zZ : w24.cell? ⟨zD, 1, none⟩ = some (.string (⟨#[]⟩ : ByteArray)) := (zc zC.out 1).trans rfl; have zab : w24.cell? ⟨zD, 2, none⟩ = some (.string (⟨#[]⟩ : ByteArray)) := (zc zC.out 2).trans rfl; have zbb : w24.cell? ⟨zD, 3, none⟩ = some (.int .i64 0) := (zc zC.out 3).trans rfl; have zcb : w24.cell? ⟨zD, 4, none⟩ = some (.bool false) := (zc zC.out 4).trans rfl; have zdb := zb zC.out 0; have zeb := zb zC.out 1; have zfb := zb zC.out 2; have zgb := zb zC.out 3; have zhb := zb zC.out 4; obtain ⟨i026, hi026, _, hsz26, _⟩ := info_parts info9; obtain ⟨A26, hcut26, hA26, hC26⟩ := print_drop_of (P := Tryd.prog) Value.string (⟨#[]⟩ : ByteArray) 119 9 .i64 Tryd.underlying119 hi026 hsz26 A0 c0 l0 (ji17) (of_decide_eq_true (by with_reducible assumption)) (of_decide_eq_true (by with_reducible assumption)) HC0.out; have HR168 := Aside0.mk (Kd.C_of_reads (h1 := fun _ => rfl) (hA26 _ (Kd.reads_of_C HR0.out))); have HC168 := Aside0.mk hC26; clear hA26 hC26 hi026 hsz26) | ((with_reducible refine zo (f := 73) rfl ?_); refine zy (some 45) rfl rfl Tryd.func73 (by kernel_rfl) rfl #[.slice A26 (l0.drop ((ji17) : Int).toNat).length (c0 - (ji17).toNat)] rfl (by (try simp only [List.map_toArray, List.map_cons, List.map_nil]); first | done | (rw [show (l0.drop ((ji17) : Int).toNat).length = (l0.length - (ji17).toNat) from List.length_drop] <;> rfl) | (simp only [hji17]; rfl) | rfl | (simp only [List.length_drop, List.length_take]; rfl)) ?_; (with_reducible refine (ih kj1 (by have := HJ1.out; omega) _ _ (l0.drop ((ji17) : Int).toNat) t169 t170 _ ?side1 ?side2 A20.out).mono ?_); (case side1 => exact Kd.C_below HR168.out (by repeat (first | (with_reducible first | exact HB.out | apply zh | apply zd | apply zi | refine zl ?_ zE.out) | exact HB.out))); (case side2 => exact HC168.out); rintro e w27 ⟨v171, rfl, zN, hb⟩; refine ⟨_, rfl, ?_⟩; have n0_ := Aside0.mk (Kd.R_lower (Kd.R_newB zN (g := zD) (o := .cells #[.int .i64 t158, .string t159, .string t160, .int .i64 t161, .bool t162] 124 (0, 0)) (bfin (by (repeat (first | (with_reducible first | refine zf ?_ _ | refine zj ?_ | refine ze ?_ _) | apply zA)); exact zC.out) (by rfl))) (zn (by repeat (first | (with_reducible first | exact HB.out | apply zh | apply zd | apply zi | refine zl ?_ zE.out) | exact HB.out)))); have n1_ := Aside0.mk (zp (g := zD) (o := .cells #[.int .i64 t158, .string t159, .string t160, .int .i64 t161, .bool t162] 124 (0, 0)) (bfin (by (repeat (first | (with_reducible first | refine zf ?_ _ | refine zj ?_ | refine ze ?_ _) | apply zA)); exact zC.out) (by rfl)) hb); have n2_ := Aside0.mk (zm (by repeat (first | (with_reducible first | exact HB.out | apply zh | apply zd | apply zi | refine zl ?_ zE.out) | exact HB.out)) hb); clear zC; clear HB; have zF := n0_; have zC := n1_; have HB := n2_; clear n0_ n1_ n2_; (try clear hb); (try clear hb2); (try clear hk); (try clear hi); (try clear zN); have zib : w27.cell? ⟨zD, 0, none⟩ = some (.int .i64 t158) := (zc zC.out 0).trans rfl; have zjb : w27.cell? ⟨zD, 1, none⟩ = some (.string t159) := (zc zC.out 1).trans rfl; have zkb : w27.cell? ⟨zD, 2, none⟩ = some (.string t160) := (zc zC.out 2).trans rfl; have zlb : w27.cell? ⟨zD, 3, none⟩ = some (.int .i64 t161) := (zc zC.out 3).trans rfl; have zmb : w27.cell? ⟨zD, 4, none⟩ = some (.bool t162) := (zc zC.out 4).trans rfl; have znb := zb zC.out 0; have zob := zb zC.out 1; have zpb := zb zC.out 2; have zqb := zb zC.out 3; have zrb := zb zC.out 4) | ((with_reducible refine zu (N := 49) rfl ?_); (try (refine gate_guard (by rfl) ?_; dsimp only)); refine Kd.R_lit k124 _ 124 ?hg (N := 49) ?hd (xs := ([(⟨t158, t159, t160, t161, t162⟩ : S124)] : List (S124))) (inner := [.int .i64 t158, .string t159, .string t160, .int .i64 t161, .bool t162]) (ok := fun _ => True) (okp := fun _ => True) ?hr ?hp (fun _ hk => hk) trivial (Below.refl _ _) (Nat.le_refl _) (by simp) ?_; (case hd => rfl); (case hg => rfl); (case hr => first | (go_simp; done) | (go_simp; rfl)); (case hp => exact (Reps.c5 (show Kd.M k124 _ _ _ (⟨t158, t159, t160, t161, t162⟩ : S124) [.int .i64 t158, .string t159, .string t160, .int .i64 t161, .bool t162] from (k124_mkM _ _ _ (⟨t158, t159, t160, t161, t162⟩ : S124) )) (Reps.none _ _))); intro v174 w29 zG hb hg_ hnew_; clear hg_ hnew_; (first | rw [← Ny173.out] at zG | (simp only [Int.reduceToNat] at zG; rw [← Ny173.out] at zG)); have n0_ := Aside0.mk (Kd.R_elder' (RL zF.out) (Kd.R_base zG) hb); have n1_ := Aside0.mk (Kd.R_lower (Kd.R_newB (Kd.R_new' zG (Kd.R_lt (RL zF.out))) (g := zD) (o := .cells #[.int .i64 t158, .string t159, .string t160, .int .i64 t161, .bool t162] 124 (0, 0)) (BL zC.out)) (zn (by exact bl HB.out))); have n2_ := Aside0.mk (zp (g := zD) (o := .cells #[.int .i64 t158, .string t159, .string t160, .int .i64 t161, .bool t162] 124 (0, 0)) (BL zC.out) hb); have n3_ := Aside0.mk (zm (by exact bl HB.out) hb); clear zF; clear zC; clear HB; have zF := n0_; have zJ := n1_; have zC := n2_; have HB := n3_; clear n0_ n1_ n2_ n3_; clear hb zG; obtain ⟨Ao32, co32, eo32⟩ := Kd.R_slice zF.out; subst eo32) | ((with_reducible refine gate_builtin (b := .append) (xs := #[.tmp 49, .tmp 50]) rfl ?_); (try (refine gate_guard (by rfl) ?_; dsimp only)); at_builtin; refine Kd.R_append_rows k124 (w0 := w) w.heap.size rfl (.tmp 49) (.tmp 50) 61 124 (.agg #[(.int .i64 0), (.string ⟨#[]⟩), (.string ⟨#[]⟩), (.int .i64 0), (.bool false)]) 56 rfl Tryd.underlying61 info124 rfl (by decide) (by omega) v174 y173 t169 _ _ _ (fun k_ => some k_ ≠ (.slice Ao32 t169.length co32 : Value).ownBlock ∧ k_ ≠ zD) (fun _ => False) rfl rfl ?aO ?aR (fun _ _ h => h) (fun _ h => h.elim) ?aF ?aB ?aS ?aL ?_; (case aR => repeat (first | exact (Kd.R_reads' zF.out).2.2 | (with_reducible refine Kd.C_alloc ?_ _) | (with_reducible refine Kd.C_drewN ?_ _) | (with_reducible refine Kd.C_drew ?_))); (case aB => exact (by exact bl HB.out)); (case aF => exact (fun k_ hk => ⟨Kd.fresh' (Kd.R_lt (RL zF.out)) k_ hk, Kd.freshB (g := zD) (o := .cells #[.int .i64 t158, .string t159, .string t160, .int .i64 t161, .bool t162] 124 (0, 0)) (BL zC.out) k_ hk⟩)); (case aO => exact (RL (Kd.R_mono zJ.out (fun _ hk => ⟨hk.1.2, hk.2⟩)))); (case aS => exact (zn (by exact bl HB.out))); (case aL => have := LMc21.out; omega); intro v177 w31 ho hb hg hat; rw [← Ny176.out] at ho; have n0_ := Aside0.mk (blk_grown (g := zD) (o := .cells #[.int .i64 t158, .string t159, .string t160, .int .i64 t161, .bool t162] 124 (0, 0)) (BL zC.out) hg (Kd.R_away zJ.out (fun _ hk => hk.2))); have n1_ := Aside0.mk (Kd.R_after (ok := (fun k_ => k_ ≠ zD)) (RL (Kd.R_mono zF.out (fun _ hk => ⟨hk.1.2, hk.2⟩))) hg hat); have n2_ := Aside0.mk (hb); have n3_ := Aside0.mk (ho); clear zC; clear zF; clear HB; clear zJ; have zC := n0_; have zF := n1_; have HB := n2_; have zL := n3_; clear n0_ n1_ n2_ n3_; clear ho hb hg hat))
          go_ret2
          exact ⟨_, by first | rfl | (simp [errW_none, errW_some] <;> rfl) | (simp only [← hji17]; first | rfl | (simp [errW_none, errW_some] <;> rfl)) | (simp [*, errW_none, errW_some] <;> rfl), RL (Kd.R_mono zL.out (fun _ hk => trivial)), by repeat (first | (with_reducible first | exact HB.out | apply zh | apply zd | apply zi | refine zl ?_ zE.out) | exact HB.out)⟩
         ·rw [if_neg c21] at H
          exact absurd H (by simp)
        ·rw [if_neg c19] at H
         exact absurd H (by simp)
       ·rw [if_neg c18] at H
        exact absurd H (by simp)
     ·replace c9 := Bool.eq_false_iff.mpr c9
      subst c9
      rw [if_neg (show ¬ (false = true) by decide)] at H
      obtain ⟨y179, hy179⟩ : ∃ y_ : List (S124), y_ = (([(⟨t158, t159, t160, t161, t162⟩ : S124)] : List (S124))) := ⟨_, rfl⟩
      replace H : (some (y179, false)) = some (r1, r2) := by first | (rw [hy179]; with_reducible exact H) | (have H2_ := (Option.bind_some _ _).symm.trans H; rw [hy179]; with_reducible exact H2_) | (have H2_ := (Option.bind_some _ _).symm.trans H; with_reducible exact H2_) | with_reducible exact H | (rw [hy179]; exact H) | exact H
      have Ny179 := Aside0.mk hy179
      clear hy179
      simp only [Option.some.injEq, Prod.mk.injEq] at H
      obtain ⟨rfl, rfl⟩ := H
      obtain ⟨i033, hi033, _, hsz33, _⟩ := info_parts info9
      obtain ⟨hcut33, hA33, hC33⟩ := print_take_of (P := Tryd.prog) Value.string (⟨#[]⟩ : ByteArray) 119 9 .i64 Tryd.underlying119 hi033 hsz33 A0 c0 l0 x4_1 (of_decide_eq_true (by with_reducible assumption)) (of_decide_eq_true (by with_reducible assumption)) HC0.out
      have HR157 := Aside0.mk (Kd.C_of_reads (h1 := fun _ => rfl) (hA33 _ (Kd.reads_of_C HR0.out)))
      have HC157 := Aside0.mk hC33
      clear hA33 hC33 hi033 hsz33
      go_wp2_with (first | ((with_reducible refine zo (f := 74) rfl ?_); refine zy (some 26) rfl rfl Tryd.func74 (by kernel_rfl) rfl #[.slice A0 (l0.take (x4_1 : Int).toNat).length c0] rfl (by (try simp only [List.map_toArray, List.map_cons, List.map_nil]); first | done | (rw [show (l0.take (x4_1 : Int).toNat).length = x4_1.toNat from (by rw [List.length_take]; have h_ : (x4_1 : Int) ≤ (l0.length : Int) := of_decide_eq_true (by with_reducible assumption); omega)] <;> rfl) | rfl | (simp only [List.length_drop, List.length_take]; rfl)) ?_; (with_reducible refine (spec_l6Op.calls kj1 _ _ (l0.take (x4_1 : Int).toNat) t158 t159 t160 t161 t162 false _ ?side1 ?side2 A8.out).mono ?_); (case side1 => repeat (first | exact (Kd.C_below HR157.out HB.out) | (with_reducible refine Kd.C_alloc ?_ _) | (with_reducible refine Kd.C_drewN ?_ _) | (with_reducible refine Kd.C_drew ?_))); (case side2 => exact HC157.out); rintro e w34 ⟨rfl, hb⟩; refine ⟨_, rfl, ?_⟩; have n0_ := Aside0.mk (zm (by exact bl HB.out) hb); clear HB; have HB := n0_; clear n0_; (try clear hb); (try clear hb2); (try clear hk); (try clear hi)) | ((with_reducible refine zu (N := 5) rfl ?_); (try (refine gate_guard (by rfl) ?_; dsimp only)); refine zz ?hg (N := 5) ?hd (cs := #[.int .i64 0, .string (⟨#[]⟩ : ByteArray), .string (⟨#[]⟩ : ByteArray), .int .i64 0, .bool false]) (t := 124) ?hr ?_; (case hd => rfl); (case hg => rfl); (case hr => first | (go_simp; done) | (go_simp; rfl)); intro zD hg w35 hbox hb; have n0_ := Aside0.mk (zm (by exact bl HB.out) hb); have n1_ := Aside0.mk (hbox); have n2_ := Aside0.mk ((by rw [hg]; exact (zn (by exact bl HB.out)) : w.heap.size ≤ zD)); have n3_ := Aside0.mk ((by rw [hg]; exact (zn (by exact bl HB.out)) : w.heap.size ≤ zD)); clear HB; have HB := n0_; have zC := n1_; have GW164 := n2_; have zE := n3_; clear n0_ n1_ n2_ n3_; clear hb hbox hg; have zsb : w35.cell? ⟨zD, 0, none⟩ = some (.int .i64 0) := (zc zC.out 0).trans rfl; have ztb : w35.cell? ⟨zD, 1, none⟩ = some (.string (⟨#[]⟩ : ByteArray)) := (zc zC.out 1).trans rfl; have zub : w35.cell? ⟨zD, 2, none⟩ = some (.string (⟨#[]⟩ : ByteArray)) := (zc zC.out 2).trans rfl; have zvb : w35.cell? ⟨zD, 3, none⟩ = some (.int .i64 0) := (zc zC.out 3).trans rfl; have zwb : w35.cell? ⟨zD, 4, none⟩ = some (.bool false) := (zc zC.out 4).trans rfl; have zxb := zb zC.out 0; have zyb := zb zC.out 1; have zzb := zb zC.out 2; have zAb := zb zC.out 3; have zBb := zb zC.out 4) | ((with_reducible refine zu (N := 38) rfl ?_); (try (refine gate_guard (by rfl) ?_; dsimp only)); refine Kd.R_lit k124 _ 124 ?hg (N := 38) ?hd (xs := ([(⟨t158, t159, t160, t161, t162⟩ : S124)] : List (S124))) (inner := [.int .i64 t158, .string t159, .string t160, .int .i64 t161, .bool t162]) (ok := fun _ => True) (okp := fun _ => True) ?hr ?hp (fun _ hk => hk) trivial (Below.refl _ _) (Nat.le_refl _) (by simp) ?_; (case hd => rfl); (case hg => rfl); (case hr => first | (go_simp; done) | (go_simp; rfl)); (case hp => exact (Reps.c5 (show Kd.M k124 _ _ _ (⟨t158, t159, t160, t161, t162⟩ : S124) [.int .i64 t158, .string t159, .string t160, .int .i64 t161, .bool t162] from (k124_mkM _ _ _ (⟨t158, t159, t160, t161, t162⟩ : S124) )) (Reps.none _ _))); intro v180 w37 zI hb hg_ hnew_; clear hg_ hnew_; (first | rw [← Ny179.out] at zI | (simp only [Int.reduceToNat] at zI; rw [← Ny179.out] at zI)); have n0_ := Aside0.mk (Kd.R_lower (Kd.R_newB zI (g := zD) (o := .cells #[.int .i64 t158, .string t159, .string t160, .int .i64 t161, .bool t162] 124 (0, 0)) (bfin (by (repeat (first | (with_reducible first | refine zf ?_ _ | refine zj ?_ | refine ze ?_ _) | apply zA)); exact zC.out) (by rfl))) (zn (by repeat (first | (with_reducible first | exact HB.out | apply zh | apply zd | apply zi | refine zl ?_ zE.out) | exact HB.out)))); have n1_ := Aside0.mk (zp (g := zD) (o := .cells #[.int .i64 t158, .string t159, .string t160, .int .i64 t161, .bool t162] 124 (0, 0)) (bfin (by (repeat (first | (with_reducible first | refine zf ?_ _ | refine zj ?_ | refine ze ?_ _) | apply zA)); exact zC.out) (by rfl)) hb); have n2_ := Aside0.mk (zm (by repeat (first | (with_reducible first | exact HB.out | apply zh | apply zd | apply zi | refine zl ?_ zE.out) | exact HB.out)) hb); clear zC; clear HB; have zM := n0_; have zC := n1_; have HB := n2_; clear n0_ n1_ n2_; clear hb zI))
      go_ret2
      exact ⟨_, by first | rfl | (simp [*] <;> rfl), RL (Kd.R_mono zM.out (fun _ hk => trivial)), by repeat (first | (with_reducible first | exact HB.out | apply zh | apply zd | apply zi | refine zl ?_ zE.out) | exact HB.out)⟩
    ·rw [if_neg c7] at H
     exact absurd H (by simp)
   ·rw [if_neg c6] at H
    exact absurd H (by simp)

def spec_l6Nums.l0 : Nat → List ByteArray → List Int → Int → Option (List Int × Bool)
 | 0, _, _, _ => none
 | k + 1, x0, x4, x5 => if x5 < (x0.length : Int) then (if 0 ≤ x5 then ((spec_l6Number.f k (rdOf ByteArray.empty x0 x5)).bind fun bt186 => (if bt186.2 = true then (if x4.length < 17592186044416 then (spec_l6Nums.l0 k x0 (x4 ++ [bt186.1]) (wrap64 (x5 + 1))) else (none)) else (some (x4, false)))) else (none)) else (some (x4, decide ((x0.length : Int) ≤ 2000)))
def spec_l6Nums.f (k : Nat) (l0 : List ByteArray) : Option (List Int × Bool) := spec_l6Nums.l0 k l0 (([] : List Int)) 0
theorem spec_l6Nums.mono_l : ∀ k, (∀ y0 y1 y2, LeO (spec_l6Nums.l0 k y0 y1 y2) (spec_l6Nums.l0 (k + 1) y0 y1 y2))
 | 0 => fun _ _ _ r h => by simp [spec_l6Nums.l0] at h
 | k + 1 => by
  have ih0 := spec_l6Nums.mono_l k
  ·intro y0 y1 y2
   unfold spec_l6Nums.l0
   repeat' first
   | (with_reducible exact ih0 _ _ _)
   | (with_reducible exact spec_l6Number.mono _ _)
   | (with_reducible exact LeO.refl _)
   | (with_reducible exact LeO.none _)
   | (with_reducible refine LeO.ite ?_ ?_)
   | (with_reducible refine LeO.bind ?_ (fun _ => ?_))
   | exact ih0 _ _ _
   | exact spec_l6Number.mono _ _
   | exact LeO.none _
   | refine LeO.ite ?_ ?_
   | refine LeO.bind ?_ (fun _ => ?_)
theorem spec_l6Nums.mono : ∀ a0 k, LeO (spec_l6Nums.f k a0) (spec_l6Nums.f (k + 1) a0) := by
 intro a0 k
 have ih0 := spec_l6Nums.mono_l k
 unfold spec_l6Nums.f
 repeat' first
   | (with_reducible exact ih0 _ _ _)
   | (with_reducible exact spec_l6Number.mono _ _)
   | (with_reducible exact LeO.refl _)
   | (with_reducible exact LeO.none _)
   | (with_reducible refine LeO.ite ?_ ?_)
   | (with_reducible refine LeO.bind ?_ (fun _ => ?_))
   | exact ih0 _ _ _
   | exact spec_l6Number.mono _ _
   | exact LeO.none _
   | refine LeO.ite ?_ ?_
   | refine LeO.bind ?_ (fun _ => ?_)
set_option maxHeartbeats 8000000 in
set_option maxRecDepth 100000 in
theorem spec_l6Nums.calls (k : Nat) (A0 : Option Addr) (c0 : Nat) (l0 : List ByteArray) (r1 : List Int) (r2 : Bool) (w : World) (hr0 : Kd.C Kd.string w A0 l0.length l0) (hc0 : l0.length ≤ c0) (h : spec_l6Nums.f k l0 = some (r1, r2)) :
  Calls Tryd.prog 75 #[.slice A0 l0.length c0] w fun e w' => ∃ v0_ : Value, e = .returned (.tuple #[v0_, .bool r2]) ∧ Kd.R (Kd.int .i64) 2 w' w.heap.size (fun _ => True) v0_ r1 ∧ Below w.heap.size w w' := by
 have HR0 := Aside0.mk hr0
 have HC0 := Aside0.mk hc0
 clear hr0 hc0
 have HB := Aside0.mk (Below.refl w.heap.size w)
 have H : (spec_l6Nums.l0 k l0 (([] : List Int)) 0) = some (r1, r2) := h
 clear h
 obtain ⟨y182, hy182⟩ : ∃ y_ : List Int, y_ = (([] : List Int)) := ⟨_, rfl⟩
 replace H : (spec_l6Nums.l0 k l0 y182 0) = some (r1, r2) := by first | (rw [hy182]; with_reducible exact H) | (have H2_ := (Option.bind_some _ _).symm.trans H; rw [hy182]; with_reducible exact H2_) | (have H2_ := (Option.bind_some _ _).symm.trans H; with_reducible exact H2_) | with_reducible exact H | (rw [hy182]; exact H) | exact H
 have Ny182 := Aside0.mk hy182
 clear hy182
 have H' := Aside0.mk H
 clear H
 go_enter Tryd.func75, Tryd.ntmps75
 go_wp2_with (first | ((with_reducible refine zu (N := 8) rfl ?_); refine Kd.R_lit (Kd.int .i64) _ 2 ?hg (N := 8) ?hd (xs := ([] : List Int)) (inner := []) (ok := fun _ => True) (okp := fun _ => True) ?hr ?hp (fun _ hk => hk) trivial (Below.refl _ _) (Nat.le_refl _) (by simp) ?_; (case hd => rfl); (case hg => rfl); (case hr => first | (go_simp; done) | (go_simp; rfl)); (case hp => exact (Reps.none _ _)); intro v183 w2 zD hb hg_ hnew_; clear hg_ hnew_; (first | rw [← Ny182.out] at zD | (simp only [Int.reduceToNat] at zD; rw [← Ny182.out] at zD)); have n0_ := Aside0.mk (Kd.R_lower zD (zn (by exact bl HB.out))); have n1_ := Aside0.mk (zm (by exact bl HB.out) hb); clear HB; have zE := n0_; have HB := n1_; clear n0_ n1_; clear hb zD))
 go_loopg [4, 5] k (fun kq v4 v5 w' => ∃ (x4_1 : List Int) (x5_1 : Int), v5 = .int .i64 x5_1 ∧ Aside0 (spec_l6Nums.l0 kq l0 x4_1 x5_1 = some (r1, r2)) ∧ Aside0 (kq ≤ k) ∧ Aside0 (Kd.R (Kd.int .i64) 2 w' w.heap.size (fun _ => True) v4 x4_1) ∧ Aside0 (Below w.heap.size w w'))
 case atStart => exact ⟨(y182), (0), (by first | rfl | (simp [*]; done)), H', ⟨Nat.le_refl _⟩, ⟨RL zE.out⟩, ⟨by repeat (first | (with_reducible first | exact HB.out | apply zh | apply zd | apply zi) | exact HB.out)⟩⟩
 case round =>
  clear H'
  try clear p2
  obtain ⟨x4_1, x5_1, rfl, HA, HK1, zC, HB⟩ := hrel
  cases gk with
  | zero => exact absurd HA.out (by simp [spec_l6Nums.l0])
  | succ k1 =>
   have H := HA.out
   clear HA
   simp only [spec_l6Nums.l0] at H
   by_cases c4 : x5_1 < (l0.length : Int)
   ·rw [if_pos c4] at H
    have c4b0 : decide (x5_1 < (l0.length : Int)) = true := decide_eq_true c4
    clear c4
    by_cases c5 : 0 ≤ x5_1
    ·rw [if_pos c5] at H
     have c5b0 : decide (0 ≤ x5_1) = true := decide_eq_true c5
     clear c5
     replace H := Option.bind_eq_some_iff.mp H
     obtain ⟨⟨t186, t187⟩, A60, H⟩ := H
     try dsimp only at H
     have A6 := Aside0.mk A60
     clear A60
     by_cases c7 : t187 = true
     ·subst c7
      rw [if_pos rfl] at H
      by_cases c8 : x4_1.length < 17592186044416
      ·rw [if_pos c8] at H
       have LMc8 := Aside0.mk c8
       clear c8
       obtain ⟨y188, hy188⟩ : ∃ y_ : List Int, y_ = (x4_1 ++ [t186]) := ⟨_, rfl⟩
       replace H : (spec_l6Nums.l0 k1 l0 y188 (wrap64 (x5_1 + 1))) = some (r1, r2) := by first | (rw [hy188]; with_reducible exact H) | (have H2_ := (Option.bind_some _ _).symm.trans H; rw [hy188]; with_reducible exact H2_) | (have H2_ := (Option.bind_some _ _).symm.trans H; with_reducible exact H2_) | with_reducible exact H | (rw [hy188]; exact H) | exact H
       have Ny188 := Aside0.mk hy188
       clear hy188
       have H' := Aside0.mk H
       clear H
       have p185 : 0 ≤ (x5_1 : Int) := of_decide_eq_true (by with_reducible assumption)
       have q185 : x5_1 < (l0.length : Int) := of_decide_eq_true (by with_reducible assumption)
       obtain ⟨ad185, e185, hx185_0⟩ := Kd.at_string HR0.out x5_1 p185 q185
       cases e185
       replace hx185_0 := zk HB.out hx185_0
       replace p185 := eq_true p185
       replace q185 := eq_true q185
       go_wp2_with (first | ((with_reducible refine zo (f := 113) rfl ?_); refine zy (some 20) rfl rfl Tryd.func113 (by kernel_rfl) rfl #[.string (rdOf ByteArray.empty l0 x5_1)] rfl (by (try simp only [List.map_toArray, List.map_cons, List.map_nil]); first | done | rfl) ?_; (with_reducible refine (spec_l6Number.calls k1 (rdOf ByteArray.empty l0 x5_1) t186 true _ A6.out).mono ?_); rintro e w' ⟨rfl, ⟨nd, rfl⟩⟩; refine ⟨_, rfl, ?_⟩) | ((with_reducible refine gate_builtin (b := .append) (xs := #[.tmp 26, .tmp 28]) rfl ?_); at_builtin; refine Kd.R_append (Kd.int .i64) (w0 := w) w.heap.size rfl (.tmp 26) (.tmp 28) 64 2 (.int .i64 0) 8 rfl Tryd.underlying64 info2 rfl (by decide) (by omega) u4 x4_1 t186 [.int .i64 t186] (fun _ => True) (fun _ => False) rfl rfl ?aP (fun _ hk => hk.elim) ?aF ?aO ?aB ?aS ?aL ?_; (case aP => exact rfl); (case aB => exact (by exact bl HB.out)); (case aF => exact (fun _ _ => trivial)); (case aO => exact (RL zC.out)); (case aS => exact (zn (by exact bl HB.out))); (case aL => have := LMc8.out; omega); intro v189 w9 ho hb hg hat; rw [← Ny188.out] at ho; have n0_ := Aside0.mk (hb); have n1_ := Aside0.mk (ho); clear HB; clear zC; have HB := n0_; have zF := n1_; clear n0_ n1_; clear ho hb hg hat))
       go_roundg k1
       case measure => have := HK1.out; omega
       case rel => exact ⟨(y188), (wrap64 (x5_1 + 1)), (by first | rfl | (simp [*]; done)), H', ⟨by have := HK1.out; omega⟩, ⟨RL zF.out⟩, ⟨by repeat (first | (with_reducible first | exact HB.out | apply zh | apply zd | apply zi) | exact HB.out)⟩⟩
      ·rw [if_neg c8] at H
       exact absurd H (by simp)
     ·replace c7 := Bool.eq_false_iff.mpr c7
      subst c7
      rw [if_neg (show ¬ (false = true) by decide)] at H
      simp only [Option.some.injEq, Prod.mk.injEq] at H
      obtain ⟨rfl, rfl⟩ := H
      have p185 : 0 ≤ (x5_1 : Int) := of_decide_eq_true (by with_reducible assumption)
      have q185 : x5_1 < (l0.length : Int) := of_decide_eq_true (by with_reducible assumption)
      obtain ⟨ad185, e185, hx185_0⟩ := Kd.at_string HR0.out x5_1 p185 q185
      cases e185
      replace hx185_0 := zk HB.out hx185_0
      replace p185 := eq_true p185
      replace q185 := eq_true q185
      go_wp2_with (first | ((with_reducible refine zo (f := 113) rfl ?_); refine zy (some 20) rfl rfl Tryd.func113 (by kernel_rfl) rfl #[.string (rdOf ByteArray.empty l0 x5_1)] rfl (by (try simp only [List.map_toArray, List.map_cons, List.map_nil]); first | done | rfl) ?_; (with_reducible refine (spec_l6Number.calls k1 (rdOf ByteArray.empty l0 x5_1) t186 false _ A6.out).mono ?_); rintro e w' ⟨rfl, ⟨nd, rfl⟩⟩; refine ⟨_, rfl, ?_⟩))
      go_ret2
      exact ⟨_, by first | rfl | (simp [*] <;> rfl), RL zC.out, by repeat (first | (with_reducible first | exact HB.out | apply zh | apply zd | apply zi) | exact HB.out)⟩
    ·rw [if_neg c5] at H
     exact absurd H (by simp)
   ·rw [if_neg c4] at H
    have c4b0 : decide (x5_1 < (l0.length : Int)) = false := decide_eq_false c4
    clear c4
    simp only [Option.some.injEq, Prod.mk.injEq] at H
    obtain ⟨rfl, rfl⟩ := H
    go_wp2
    go_ret2
    exact ⟨_, by first | rfl | (simp [*] <;> rfl), RL zC.out, by repeat (first | (with_reducible first | exact HB.out | apply zh | apply zd | apply zi) | exact HB.out)⟩

def spec_l6Between.f (a0 : Int) (a1 : Int) (a2 : Int) : Option (Bool) := if a0 ≥ a1 then (some (decide (a0 ≤ a2))) else (some false)
set_option maxHeartbeats 8000000 in
set_option maxRecDepth 100000 in
theorem spec_l6Between.calls (a0 : Int) (a1 : Int) (a2 : Int) (r : Bool) (w : World) (h : spec_l6Between.f a0 a1 a2 = some r) :
  Calls Tryd.prog 76 #[.int .i64 a0, .int .i64 a1, .int .i64 a2] w fun e w' => e = .returned (.bool r) ∧ Drawn0 w w' := by
 have H : (if a0 ≥ a1 then (some (decide (a0 ≤ a2))) else (some false)) = some r := h
 clear h
 by_cases c4 : a0 ≥ a1
 ·rw [if_pos c4] at H
  have c4b0 : decide (a1 ≤ a0) = true := decide_eq_true c4
  clear c4
  obtain rfl := Option.some.inj H
  go_enter Tryd.func76, Tryd.ntmps76
  go_wp2
  go_ret
  exact ⟨by first | rfl | (simp; done) | (simp [*]; done), by repeat (first | exact Drawn0.refl _ | apply Drawn0.step)⟩
 ·rw [if_neg c4] at H
  have c4b0 : decide (a1 ≤ a0) = false := decide_eq_false c4
  clear c4
  obtain rfl := Option.some.inj H
  go_enter Tryd.func76, Tryd.ntmps76
  go_wp2
  go_ret
  exact ⟨by first | rfl | (simp; done) | (simp [*]; done), by repeat (first | exact Drawn0.refl _ | apply Drawn0.step)⟩

end Go.Proofs.YtfiojiokmkiflaaDoor.GFnExactParseLine
