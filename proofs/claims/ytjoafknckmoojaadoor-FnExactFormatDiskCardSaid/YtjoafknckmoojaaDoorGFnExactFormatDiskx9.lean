/- Written by give.py, a program of this session, that runs the kit's print and lays contracts proved by hand beside it. -/
import Derived.Test.YtjoafknckmoojaaDoorGFnExactFormatDiskx0
import Derived.Test.YtjoafknckmoojaaDoorGFnExactFormatDiskx8
namespace Go.Proofs.YtjoafknckmoojaaDoor.GFnExactFormatDisk
open Go.RowKit Go.Proofs.YtjoafknckmoojaaDoorW.PrintWords Go.Proofs.YtjoafknckmoojaaDoorW.PrintLast Go.Proofs.YtjoafknckmoojaaDoorW.PrintMore
attribute [local go_sem] max2_int min2_int max_two min_two max_three min_three max_four min_four Go.Proofs.YtjoafknckmoojaaDoorH.str_leq Go.Proofs.YtjoafknckmoojaaDoorH.str_geq Go.Proofs.YtjoafknckmoojaaDoorH.str_gtr   -- for this text's walks alone
set_option linter.unusedVariables false
set_option linter.unusedSimpArgs false

def impl_Crc.l0 : Nat → Int → List Int → Int → Int → Option (Int)
 | 0, _, _, _, _ => none
 | k + 1, x3, x6, x7, x8 => if x8 < x7 then (if 0 ≤ x8 then (if x8 < (x6.length : Int) then (impl_Crc.l0 k (Go.bits .xor .u32 (YtjoafknckmoojaaDoorH.nibAt (Go.bits .and .u32 (Go.bits .xor .u32 (Go.bits .xor .u32 (YtjoafknckmoojaaDoorH.nibAt (Go.bits .and .u32 (Go.bits .xor .u32 x3 ((rd x6 x8) % 4294967296)) 15)) (x3 / 16)) (((rd x6 x8) / 16) % 4294967296)) 15)) ((Go.bits .xor .u32 (YtjoafknckmoojaaDoorH.nibAt (Go.bits .and .u32 (Go.bits .xor .u32 x3 ((rd x6 x8) % 4294967296)) 15)) (x3 / 16)) / 16)) x6 x7 (wrap64 (x8 + 1))) else (none)) else (none)) else (some (wrap64 (Go.bits .xor .u32 4294967295 x3)))
def impl_Crc.f (k : Nat) (l0 : List Int) : Option (Int) := impl_Crc.l0 k 4294967295 l0 (l0.length : Int) 0
theorem impl_Crc.mono_l : ∀ k, (∀ y0 y1 y2 y3, LeO (impl_Crc.l0 k y0 y1 y2 y3) (impl_Crc.l0 (k + 1) y0 y1 y2 y3))
 | 0 => fun _ _ _ _ r h => by simp [impl_Crc.l0] at h
 | k + 1 => by
  have ih0 := impl_Crc.mono_l k
  ·intro y0 y1 y2 y3
   unfold impl_Crc.l0
   repeat' first
   | (with_reducible exact ih0 _ _ _ _)
   | (with_reducible exact LeO.refl _)
   | (with_reducible exact LeO.none _)
   | (with_reducible refine LeO.ite ?_ ?_)
   | (with_reducible refine LeO.bind ?_ (fun _ => ?_))
   | exact ih0 _ _ _ _
   | exact LeO.none _
   | refine LeO.ite ?_ ?_
   | refine LeO.bind ?_ (fun _ => ?_)
theorem impl_Crc.mono : ∀ a0 k, LeO (impl_Crc.f k a0) (impl_Crc.f (k + 1) a0) := by
 intro a0 k
 have ih0 := impl_Crc.mono_l k
 unfold impl_Crc.f
 repeat' first
   | (with_reducible exact ih0 _ _ _ _)
   | (with_reducible exact LeO.refl _)
   | (with_reducible exact LeO.none _)
   | (with_reducible refine LeO.ite ?_ ?_)
   | (with_reducible refine LeO.bind ?_ (fun _ => ?_))
   | exact ih0 _ _ _ _
   | exact LeO.none _
   | refine LeO.ite ?_ ?_
   | refine LeO.bind ?_ (fun _ => ?_)
set_option maxHeartbeats 8000000 in
set_option maxRecDepth 100000 in
theorem impl_Crc.calls (k : Nat) (A0 : Option Addr) (c0 : Nat) (l0 : List Int) (r : Int) (w : World) (hr0 : Kd.C (Kd.int .u8) w A0 l0.length l0) (hc0 : l0.length ≤ c0) (h : impl_Crc.f k l0 = some r) (hGNIB_ : Go.Proofs.YtjoafknckmoojaaDoorH.GFNIB w) :
  Calls Tryd.prog 59 #[.slice A0 l0.length c0] w fun e w' => e = .returned (.int .i64 r) ∧ Drawn0 w w' := by
 have HGNIB_ := Aside0.mk hGNIB_
 clear hGNIB_
 have HR0 := Aside0.mk hr0
 have HC0 := Aside0.mk hc0
 clear hr0 hc0
 have H : (impl_Crc.l0 k 4294967295 l0 (l0.length : Int) 0) = some r := h
 clear h
 have H' := Aside0.mk H
 clear H
 go_enter Tryd.func59, Tryd.ntmps59
 go_wp2
 go_loopg [3, 8] k (fun kq v3 v8 w' => ∃ (x3_1 : Int) (x8_1 : Int), v3 = .int .u32 x3_1 ∧ v8 = .int .i64 x8_1 ∧ Aside0 (impl_Crc.l0 kq x3_1 l0 (l0.length : Int) x8_1 = some r) ∧ Aside0 (kq ≤ k) ∧ Drawn0 w w')
 case atStart => exact ⟨(4294967295), (0), (by first | rfl | (simp; done) | (simp [*]; done)), (by first | rfl | (simp; done) | (simp [*]; done)), H', ⟨Nat.le_refl _⟩, by repeat (first | exact Drawn0.refl _ | apply Drawn0.step)⟩
 case round =>
  clear H'
  obtain ⟨x3_1, x8_1, rfl, rfl, HA, HK1, ⟨m1, rfl⟩⟩ := hrel
  cases gk with
  | zero => exact absurd HA.out (by simp [impl_Crc.l0])
  | succ k1 =>
   have H := HA.out
   clear HA
   simp only [impl_Crc.l0] at H
   by_cases c2 : x8_1 < (l0.length : Int)
   ·rw [if_pos c2] at H
    have c2b0 : decide (x8_1 < (l0.length : Int)) = true := decide_eq_true c2
    clear c2
    by_cases c3 : 0 ≤ x8_1
    ·rw [if_pos c3] at H
     have c3b0 : decide (0 ≤ x8_1) = true := decide_eq_true c3
     clear c3
     by_cases c4 : x8_1 < (l0.length : Int)
     ·rw [if_pos c4] at H
      have c4b0 : decide (x8_1 < (l0.length : Int)) = true := decide_eq_true c4
      clear c4
      have H' := Aside0.mk H
      clear H
      have p346 : 0 ≤ (x8_1 : Int) := of_decide_eq_true (by first | (with_reducible assumption) | assumption)
      have q346 : x8_1 < (l0.length : Int) := of_decide_eq_true (by first | (with_reducible assumption) | assumption)
      obtain ⟨ad346, e346, hx346_0⟩ := Kd.at_int HR0.out x8_1 p346 q346
      cases e346
      replace p346 := eq_true p346
      replace q346 := eq_true q346
      have pn1 := YtjoafknckmoojaaDoorH.and15 (Go.bits .xor .u32 x3_1 ((rd l0 x8_1) % 4294967296))
      have hn1 := HGNIB_.out (Go.bits .and .u32 (Go.bits .xor .u32 x3_1 ((rd l0 x8_1) % 4294967296)) 15).toNat (by show _ < 16; omega)
      replace hn1 : w.cell? ⟨0, (Go.bits .and .u32 (Go.bits .xor .u32 x3_1 ((rd l0 x8_1) % 4294967296)) 15).toNat, none⟩ = some (.int .u32 (YtjoafknckmoojaaDoorH.nibAt (Go.bits .and .u32 (Go.bits .xor .u32 x3_1 ((rd l0 x8_1) % 4294967296)) 15))) := hn1
      have pa1 := eq_true pn1.1
      have pb1 := eq_true pn1.2
      clear pn1
      have pn2 := YtjoafknckmoojaaDoorH.and15 (Go.bits .xor .u32 (Go.bits .xor .u32 (YtjoafknckmoojaaDoorH.nibAt (Go.bits .and .u32 (Go.bits .xor .u32 x3_1 ((rd l0 x8_1) % 4294967296)) 15)) (x3_1 / 16)) (((rd l0 x8_1) / 16) % 4294967296))
      have hn2 := HGNIB_.out (Go.bits .and .u32 (Go.bits .xor .u32 (Go.bits .xor .u32 (YtjoafknckmoojaaDoorH.nibAt (Go.bits .and .u32 (Go.bits .xor .u32 x3_1 ((rd l0 x8_1) % 4294967296)) 15)) (x3_1 / 16)) (((rd l0 x8_1) / 16) % 4294967296)) 15).toNat (by show _ < 16; omega)
      replace hn2 : w.cell? ⟨0, (Go.bits .and .u32 (Go.bits .xor .u32 (Go.bits .xor .u32 (YtjoafknckmoojaaDoorH.nibAt (Go.bits .and .u32 (Go.bits .xor .u32 x3_1 ((rd l0 x8_1) % 4294967296)) 15)) (x3_1 / 16)) (((rd l0 x8_1) / 16) % 4294967296)) 15).toNat, none⟩ = some (.int .u32 (YtjoafknckmoojaaDoorH.nibAt (Go.bits .and .u32 (Go.bits .xor .u32 (Go.bits .xor .u32 (YtjoafknckmoojaaDoorH.nibAt (Go.bits .and .u32 (Go.bits .xor .u32 x3_1 ((rd l0 x8_1) % 4294967296)) 15)) (x3_1 / 16)) (((rd l0 x8_1) / 16) % 4294967296)) 15))) := hn2
      have pa2 := eq_true pn2.1
      have pb2 := eq_true pn2.2
      clear pn2
      go_wp2
      go_roundg k1
      case measure => have := HK1.out; omega
      case rel => exact ⟨(Go.bits .xor .u32 (YtjoafknckmoojaaDoorH.nibAt (Go.bits .and .u32 (Go.bits .xor .u32 (Go.bits .xor .u32 (YtjoafknckmoojaaDoorH.nibAt (Go.bits .and .u32 (Go.bits .xor .u32 x3_1 ((rd l0 x8_1) % 4294967296)) 15)) (x3_1 / 16)) (((rd l0 x8_1) / 16) % 4294967296)) 15)) ((Go.bits .xor .u32 (YtjoafknckmoojaaDoorH.nibAt (Go.bits .and .u32 (Go.bits .xor .u32 x3_1 ((rd l0 x8_1) % 4294967296)) 15)) (x3_1 / 16)) / 16)), (wrap64 (x8_1 + 1)), (by first | rfl | (simp; done) | (simp [*]; done)), (by first | rfl | (simp; done) | (simp [*]; done)), H', ⟨by have := HK1.out; omega⟩, by repeat (first | exact Drawn0.refl _ | apply Drawn0.step)⟩
     ·rw [if_neg c4] at H
      exact absurd H (by simp)
    ·rw [if_neg c3] at H
     exact absurd H (by simp)
   ·rw [if_neg c2] at H
    have c2b0 : decide (x8_1 < (l0.length : Int)) = false := decide_eq_false c2
    clear c2
    obtain rfl := Option.some.inj H
    go_wp2
    go_ret
    exact ⟨by first | rfl | (simp; done) | (simp [*]; done), by repeat (first | exact Drawn0.refl _ | apply Drawn0.step)⟩

def impl_Config_valid.f (a0_0 : Int) (a0_1 : Int) : Option (Bool) := if a0_0 ≥ 1 then (if a0_0 ≤ 64 then (if a0_1 ≥ 1 then (some (decide (a0_1 ≤ 64))) else (some false)) else (some false)) else (some false)
set_option maxHeartbeats 8000000 in
set_option maxRecDepth 100000 in
theorem impl_Config_valid.calls (a0_0 : Int) (a0_1 : Int) (r : Bool) (w : World) (h : impl_Config_valid.f a0_0 a0_1 = some r) :
  Calls Tryd.prog 78 #[.agg #[.int .i64 a0_0, .int .i64 a0_1]] w fun e w' => e = .returned (.bool r) ∧ Below w.heap.size w w' := by
 have hu49 := Tryd.underlying49
 have HB := Aside0.mk (Below.refl w.heap.size w)
 have H : (if a0_0 ≥ 1 then (if a0_0 ≤ 64 then (if a0_1 ≥ 1 then (some (decide (a0_1 ≤ 64))) else (some false)) else (some false)) else (some false)) = some r := h
 clear h
 by_cases c2 : a0_0 ≥ 1
 ·rw [if_pos c2] at H
  have c2b0 : decide (1 ≤ a0_0) = true := decide_eq_true c2
  clear c2
  by_cases c3 : a0_0 ≤ 64
  ·rw [if_pos c3] at H
   have c3b0 : decide (a0_0 ≤ 64) = true := decide_eq_true c3
   clear c3
   by_cases c4 : a0_1 ≥ 1
   ·rw [if_pos c4] at H
    have c4b0 : decide (1 ≤ a0_1) = true := decide_eq_true c4
    clear c4
    obtain rfl := Option.some.inj H
    go_enter Tryd.func78, Tryd.ntmps78
    go_wp2_with (first | ((with_reducible refine zr (N := 1) rfl ?_); refine zu ?hg (N := 1) ?hd (cs := #[.int .i64 a0_0, .int .i64 a0_1]) (t := 49) ?hr ?_; (case hd => rfl); (case hg => rfl); (case hr => first | (go_simp; done) | (go_simp; rfl)); intro zA hg w5 hbox hb; have n0_ := Aside0.mk (zm (by repeat (first | (with_reducible first | exact HB.out | apply zd | apply zb | apply zc) | exact HB.out)) hb); have n1_ := Aside0.mk (hbox); have n2_ := Aside0.mk ((by rw [hg]; exact (zk (by repeat (first | (with_reducible first | exact HB.out | apply zd | apply zb | apply zc) | exact HB.out))) : w.heap.size ≤ zA)); have n3_ := Aside0.mk ((by rw [hg]; exact (zk (by repeat (first | (with_reducible first | exact HB.out | apply zd | apply zb | apply zc) | exact HB.out))) : w.heap.size ≤ zA)); clear HB; have HB := n0_; have zB := n1_; have GW347 := n2_; have zC := n3_; clear n0_ n1_ n2_ n3_; clear hb hbox hg; have zL : w5.cell? ⟨zA, 0, none⟩ = some (.int .i64 a0_0) := (ze zB.out 0).trans rfl; have zM : w5.cell? ⟨zA, 1, none⟩ = some (.int .i64 a0_1) := (ze zB.out 1).trans rfl; have zN := zg zB.out 0; have zO := zg zB.out 1))
    go_ret
    exact ⟨by first | rfl | (simp [errW_none, errW_some] <;> rfl) | (simp [*, errW_none, errW_some] <;> rfl), by repeat (first | (with_reducible first | exact HB.out | apply zd | apply zb | apply zc | refine zh ?_ zC.out) | exact HB.out)⟩
   ·rw [if_neg c4] at H
    have c4b0 : decide (1 ≤ a0_1) = false := decide_eq_false c4
    clear c4
    obtain rfl := Option.some.inj H
    go_enter Tryd.func78, Tryd.ntmps78
    go_wp2_with (first | ((with_reducible refine zr (N := 1) rfl ?_); refine zu ?hg (N := 1) ?hd (cs := #[.int .i64 a0_0, .int .i64 a0_1]) (t := 49) ?hr ?_; (case hd => rfl); (case hg => rfl); (case hr => first | (go_simp; done) | (go_simp; rfl)); intro zA hg w7 hbox hb; have n0_ := Aside0.mk (zm (by repeat (first | (with_reducible first | exact HB.out | apply zd | apply zb | apply zc) | exact HB.out)) hb); have n1_ := Aside0.mk (hbox); have n2_ := Aside0.mk ((by rw [hg]; exact (zk (by repeat (first | (with_reducible first | exact HB.out | apply zd | apply zb | apply zc) | exact HB.out))) : w.heap.size ≤ zA)); have n3_ := Aside0.mk ((by rw [hg]; exact (zk (by repeat (first | (with_reducible first | exact HB.out | apply zd | apply zb | apply zc) | exact HB.out))) : w.heap.size ≤ zA)); clear HB; have HB := n0_; have zB := n1_; have GW347 := n2_; have zC := n3_; clear n0_ n1_ n2_ n3_; clear hb hbox hg; have zP : w7.cell? ⟨zA, 0, none⟩ = some (.int .i64 a0_0) := (ze zB.out 0).trans rfl; have zQ : w7.cell? ⟨zA, 1, none⟩ = some (.int .i64 a0_1) := (ze zB.out 1).trans rfl; have zR := zg zB.out 0; have zS := zg zB.out 1))
    go_ret
    exact ⟨by first | rfl | (simp [errW_none, errW_some] <;> rfl) | (simp [*, errW_none, errW_some] <;> rfl), by repeat (first | (with_reducible first | exact HB.out | apply zd | apply zb | apply zc | refine zh ?_ zC.out) | exact HB.out)⟩
  ·rw [if_neg c3] at H
   have c3b0 : decide (a0_0 ≤ 64) = false := decide_eq_false c3
   clear c3
   obtain rfl := Option.some.inj H
   go_enter Tryd.func78, Tryd.ntmps78
   go_wp2_with (first | ((with_reducible refine zr (N := 1) rfl ?_); refine zu ?hg (N := 1) ?hd (cs := #[.int .i64 a0_0, .int .i64 a0_1]) (t := 49) ?hr ?_; (case hd => rfl); (case hg => rfl); (case hr => first | (go_simp; done) | (go_simp; rfl)); intro zA hg w9 hbox hb; have n0_ := Aside0.mk (zm (by repeat (first | (with_reducible first | exact HB.out | apply zd | apply zb | apply zc) | exact HB.out)) hb); have n1_ := Aside0.mk (hbox); have n2_ := Aside0.mk ((by rw [hg]; exact (zk (by repeat (first | (with_reducible first | exact HB.out | apply zd | apply zb | apply zc) | exact HB.out))) : w.heap.size ≤ zA)); have n3_ := Aside0.mk ((by rw [hg]; exact (zk (by repeat (first | (with_reducible first | exact HB.out | apply zd | apply zb | apply zc) | exact HB.out))) : w.heap.size ≤ zA)); clear HB; have HB := n0_; have zB := n1_; have GW347 := n2_; have zC := n3_; clear n0_ n1_ n2_ n3_; clear hb hbox hg; have zD : w9.cell? ⟨zA, 0, none⟩ = some (.int .i64 a0_0) := (ze zB.out 0).trans rfl; have zE : w9.cell? ⟨zA, 1, none⟩ = some (.int .i64 a0_1) := (ze zB.out 1).trans rfl; have zF := zg zB.out 0; have zG := zg zB.out 1))
   go_ret
   exact ⟨by first | rfl | (simp [errW_none, errW_some] <;> rfl) | (simp [*, errW_none, errW_some] <;> rfl), by repeat (first | (with_reducible first | exact HB.out | apply zd | apply zb | apply zc | refine zh ?_ zC.out) | exact HB.out)⟩
 ·rw [if_neg c2] at H
  have c2b0 : decide (1 ≤ a0_0) = false := decide_eq_false c2
  clear c2
  obtain rfl := Option.some.inj H
  go_enter Tryd.func78, Tryd.ntmps78
  go_wp2_with (first | ((with_reducible refine zr (N := 1) rfl ?_); refine zu ?hg (N := 1) ?hd (cs := #[.int .i64 a0_0, .int .i64 a0_1]) (t := 49) ?hr ?_; (case hd => rfl); (case hg => rfl); (case hr => first | (go_simp; done) | (go_simp; rfl)); intro zA hg w11 hbox hb; have n0_ := Aside0.mk (zm (by repeat (first | (with_reducible first | exact HB.out | apply zd | apply zb | apply zc) | exact HB.out)) hb); have n1_ := Aside0.mk (hbox); have n2_ := Aside0.mk ((by rw [hg]; exact (zk (by repeat (first | (with_reducible first | exact HB.out | apply zd | apply zb | apply zc) | exact HB.out))) : w.heap.size ≤ zA)); have n3_ := Aside0.mk ((by rw [hg]; exact (zk (by repeat (first | (with_reducible first | exact HB.out | apply zd | apply zb | apply zc) | exact HB.out))) : w.heap.size ≤ zA)); clear HB; have HB := n0_; have zB := n1_; have GW347 := n2_; have zC := n3_; clear n0_ n1_ n2_ n3_; clear hb hbox hg; have zH : w11.cell? ⟨zA, 0, none⟩ = some (.int .i64 a0_0) := (ze zB.out 0).trans rfl; have zI : w11.cell? ⟨zA, 1, none⟩ = some (.int .i64 a0_1) := (ze zB.out 1).trans rfl; have zJ := zg zB.out 0; have zK := zg zB.out 1))
  go_ret
  exact ⟨by first | rfl | (simp [errW_none, errW_some] <;> rfl) | (simp [*, errW_none, errW_some] <;> rfl), by repeat (first | (with_reducible first | exact HB.out | apply zd | apply zb | apply zc | refine zh ?_ zC.out) | exact HB.out)⟩

def impl_NewDisk.f (a0 : Int) : Option (List Int × (List (S195))) := if a0 < 1 then (some (([] : List Int), ([] : List (S195)))) else (if a0 > 300 then (some (([] : List Int), ([] : List (S195)))) else (if 0 ≤ (wrap64 (a0 * 64)) then (if (wrap64 (a0 * 64) : Int).toNat ≤ 281474976710656 then (some ((List.replicate (wrap64 (a0 * 64) : Int).toNat 0), ([] : List (S195)))) else (none)) else (none)))
set_option maxHeartbeats 8000000 in
set_option maxRecDepth 100000 in
theorem impl_NewDisk.calls (a0 : Int) (r1 : List Int) (r2 : List (S195)) (w : World) (h : impl_NewDisk.f a0 = some (r1, r2)) :
  Calls Tryd.prog 80 #[.int .i64 a0] w fun e w' => ∃ v0_ v1_ : Value, e = .returned (.agg #[v0_, v1_]) ∧ Kd.R (Kd.int .u8) 5 w' w.heap.size (fun _ => True) v0_ r1 ∧ Kd.S k195 195 w' w.heap.size (fun k_ => some k_ ≠ (v0_ : Value).ownBlock) v1_ r2 ∧ Below w.heap.size w w' := by
 have hu47 := Tryd.underlying47
 have HB := Aside0.mk (Below.refl w.heap.size w)
 have H : (if a0 < 1 then (some (([] : List Int), ([] : List (S195)))) else (if a0 > 300 then (some (([] : List Int), ([] : List (S195)))) else (if 0 ≤ (wrap64 (a0 * 64)) then (if (wrap64 (a0 * 64) : Int).toNat ≤ 281474976710656 then (some ((List.replicate (wrap64 (a0 * 64) : Int).toNat 0), ([] : List (S195)))) else (none)) else (none)))) = some (r1, r2) := h
 clear h
 by_cases c2 : a0 < 1
 ·rw [if_pos c2] at H
  have c2b0 : decide (a0 < 1) = true := decide_eq_true c2
  clear c2
  simp only [Option.some.injEq, Prod.mk.injEq] at H
  obtain ⟨rfl, rfl⟩ := H
  go_enter Tryd.func80, Tryd.ntmps80
  go_wp2_with (first | ((with_reducible refine zr (N := 2) rfl ?_); refine zu ?hg (N := 2) ?hd (cs := #[.slice none 0 0, .slice none 0 0]) (t := 47) ?hr ?_; (case hd => rfl); (case hg => rfl); (case hr => first | (go_simp; done) | (go_simp; rfl)); intro zB hg w3 hbox hb; have n0_ := Aside0.mk (zm (by repeat (first | (with_reducible first | exact HB.out | apply zd | apply zb | apply zc) | exact HB.out)) hb); have n1_ := Aside0.mk (hbox); have n2_ := Aside0.mk ((by rw [hg]; exact (zk (by repeat (first | (with_reducible first | exact HB.out | apply zd | apply zb | apply zc) | exact HB.out))) : w.heap.size ≤ zB)); have n3_ := Aside0.mk ((by rw [hg]; exact (zk (by repeat (first | (with_reducible first | exact HB.out | apply zd | apply zb | apply zc) | exact HB.out))) : w.heap.size ≤ zB)); clear HB; have HB := n0_; have zA := n1_; have GW348 := n2_; have zC := n3_; clear n0_ n1_ n2_ n3_; clear hb hbox hg; have zJ : w3.cell? ⟨zB, 0, none⟩ = some (.slice none 0 0) := (ze zA.out 0).trans rfl; have zK : w3.cell? ⟨zB, 1, none⟩ = some (.slice none 0 0) := (ze zA.out 1).trans rfl; have zL := zg zA.out 0; have zM := zg zA.out 1))
  refine bodyPost_ret (results_cell_row rfl _ _ zB 47 #[.slice none 0 0, .slice none 0 0] (0, 0) _ rfl (by (with_reducible repeat (first | refine zj ?_ _ | refine zl ?_ | refine zi ?_ _)); refine zy (cs := #[.slice none 0 0, .slice none 0 0]) ?_ 1 _ rfl; (with_reducible repeat (first | refine zj ?_ _ | refine zl ?_ | refine zi ?_ _)); refine zy (cs := #[.slice none 0 0, .slice none 0 0]) ?_ 0 _ rfl; (with_reducible repeat (first | refine zj ?_ _ | refine zl ?_ | refine zi ?_ _)); exact zA.out) Tryd.underlying47 rfl (by kernel_rfl)) rfl ?_
  exact ⟨_, _, by first | rfl | (simp [errW_none, errW_some] <;> rfl) | (simp [*, errW_none, errW_some] <;> rfl), by first | exact Kd.R_nil _ _ _ _ _ | exact Kd.N_nil _ _ _ _ _ | exact Kd.V_nil _ _ _ _ _ | exact Kd.Q_nil _ _ _ _ _ | exact Kd.S_nil _ _ _ _ _, by first | exact Kd.S_nil _ _ _ _ _ | exact Kd.N_nil _ _ _ _ _ | exact Kd.V_nil _ _ _ _ _ | exact Kd.Q_nil _ _ _ _ _ | exact Kd.R_nil _ _ _ _ _, by repeat (first | (with_reducible first | exact HB.out | apply zd | apply zb | apply zc | refine zh ?_ zC.out) | exact HB.out)⟩
 ·rw [if_neg c2] at H
  have c2b0 : decide (a0 < 1) = false := decide_eq_false c2
  clear c2
  by_cases c5 : a0 > 300
  ·rw [if_pos c5] at H
   have c5b0 : decide (300 < a0) = true := decide_eq_true c5
   clear c5
   simp only [Option.some.injEq, Prod.mk.injEq] at H
   obtain ⟨rfl, rfl⟩ := H
   go_enter Tryd.func80, Tryd.ntmps80
   go_wp2_with (first | ((with_reducible refine zr (N := 2) rfl ?_); refine zu ?hg (N := 2) ?hd (cs := #[.slice none 0 0, .slice none 0 0]) (t := 47) ?hr ?_; (case hd => rfl); (case hg => rfl); (case hr => first | (go_simp; done) | (go_simp; rfl)); intro zB hg w6 hbox hb; have n0_ := Aside0.mk (zm (by repeat (first | (with_reducible first | exact HB.out | apply zd | apply zb | apply zc) | exact HB.out)) hb); have n1_ := Aside0.mk (hbox); have n2_ := Aside0.mk ((by rw [hg]; exact (zk (by repeat (first | (with_reducible first | exact HB.out | apply zd | apply zb | apply zc) | exact HB.out))) : w.heap.size ≤ zB)); have n3_ := Aside0.mk ((by rw [hg]; exact (zk (by repeat (first | (with_reducible first | exact HB.out | apply zd | apply zb | apply zc) | exact HB.out))) : w.heap.size ≤ zB)); clear HB; have HB := n0_; have zA := n1_; have GW348 := n2_; have zC := n3_; clear n0_ n1_ n2_ n3_; clear hb hbox hg; have zN : w6.cell? ⟨zB, 0, none⟩ = some (.slice none 0 0) := (ze zA.out 0).trans rfl; have zO : w6.cell? ⟨zB, 1, none⟩ = some (.slice none 0 0) := (ze zA.out 1).trans rfl; have zP := zg zA.out 0; have zQ := zg zA.out 1))
   refine bodyPost_ret (results_cell_row rfl _ _ zB 47 #[.slice none 0 0, .slice none 0 0] (0, 0) _ rfl (by (with_reducible repeat (first | refine zj ?_ _ | refine zl ?_ | refine zi ?_ _)); refine zy (cs := #[.slice none 0 0, .slice none 0 0]) ?_ 1 _ rfl; (with_reducible repeat (first | refine zj ?_ _ | refine zl ?_ | refine zi ?_ _)); refine zy (cs := #[.slice none 0 0, .slice none 0 0]) ?_ 0 _ rfl; (with_reducible repeat (first | refine zj ?_ _ | refine zl ?_ | refine zi ?_ _)); exact zA.out) Tryd.underlying47 rfl (by kernel_rfl)) rfl ?_
   exact ⟨_, _, by first | rfl | (simp [errW_none, errW_some] <;> rfl) | (simp [*, errW_none, errW_some] <;> rfl), by first | exact Kd.R_nil _ _ _ _ _ | exact Kd.N_nil _ _ _ _ _ | exact Kd.V_nil _ _ _ _ _ | exact Kd.Q_nil _ _ _ _ _ | exact Kd.S_nil _ _ _ _ _, by first | exact Kd.S_nil _ _ _ _ _ | exact Kd.N_nil _ _ _ _ _ | exact Kd.V_nil _ _ _ _ _ | exact Kd.Q_nil _ _ _ _ _ | exact Kd.R_nil _ _ _ _ _, by repeat (first | (with_reducible first | exact HB.out | apply zd | apply zb | apply zc | refine zh ?_ zC.out) | exact HB.out)⟩
  ·rw [if_neg c5] at H
   have c5b0 : decide (300 < a0) = false := decide_eq_false c5
   clear c5
   obtain ⟨ji8, hji8⟩ : ∃ j_ : Int, (wrap64 (a0 * 64)) = j_ := ⟨_, rfl⟩
   replace H : (if 0 ≤ (ji8) then (if (ji8 : Int).toNat ≤ 281474976710656 then (some ((List.replicate (ji8 : Int).toNat 0), ([] : List (S195)))) else (none)) else (none)) = some (r1, r2) := by first | (rw [hji8] at H; exact H) | (simp only [hji8] at H ⊢; exact H)
   have hji8w : (IntKind.i64.wrap (a0 * 64)) = ji8 := (zp _).trans hji8
   by_cases c9 : 0 ≤ (ji8)
   ·rw [if_pos c9] at H
    have c9b0 := eq_true c9
    have c9b1 : decide (0 ≤ (ji8)) = true := decide_eq_true c9
    clear c9
    by_cases c10 : (ji8 : Int).toNat ≤ 281474976710656
    ·rw [if_pos c10] at H
     have c10b0 := eq_true c10
     have c10b1 : decide ((ji8 : Int).toNat ≤ 281474976710656) = true := decide_eq_true c10
     clear c10
     obtain ⟨y349, hy349⟩ : ∃ y_ : List Int, y_ = (List.replicate (ji8 : Int).toNat 0) := ⟨_, rfl⟩
     replace H : (some (y349, ([] : List (S195)))) = some (r1, r2) := by first | (rw [hy349]; with_reducible exact H) | (have H2_ := (Option.bind_some _ _).symm.trans H; rw [hy349]; with_reducible exact H2_) | (have H2_ := (Option.bind_some _ _).symm.trans H; with_reducible exact H2_) | with_reducible exact H | (rw [hy349]; exact H) | exact H
     have Ny349 := Aside0.mk hy349
     clear hy349
     simp only [Option.some.injEq, Prod.mk.injEq] at H
     obtain ⟨rfl, rfl⟩ := H
     go_enter Tryd.func80, Tryd.ntmps80
     go_wp2_with (first | ((with_reducible refine zr (N := 2) rfl ?_); refine zu ?hg (N := 2) ?hd (cs := #[.slice none 0 0, .slice none 0 0]) (t := 47) ?hr ?_; (case hd => rfl); (case hg => rfl); (case hr => first | (go_simp; done) | (go_simp; rfl)); intro zB hg w11 hbox hb; have n0_ := Aside0.mk (zm (by repeat (first | (with_reducible first | exact HB.out | apply zd | apply zb | apply zc) | exact HB.out)) hb); have n1_ := Aside0.mk (hbox); have n2_ := Aside0.mk ((by rw [hg]; exact (zk (by repeat (first | (with_reducible first | exact HB.out | apply zd | apply zb | apply zc) | exact HB.out))) : w.heap.size ≤ zB)); have n3_ := Aside0.mk ((by rw [hg]; exact (zk (by repeat (first | (with_reducible first | exact HB.out | apply zd | apply zb | apply zc) | exact HB.out))) : w.heap.size ≤ zB)); clear HB; have HB := n0_; have zA := n1_; have GW348 := n2_; have zC := n3_; clear n0_ n1_ n2_ n3_; clear hb hbox hg) | ((with_reducible refine zr (N := 12) rfl ?_); refine Kd.R_make (Kd.int .u8) _ 5 rfl (N := 12) rfl 22 _ _ rfl ji8 rfl rfl Tryd.underlying22 (.int .u8 0) 1 info5 rfl (by decide) (by omega) 0 (ok := fun _ => True) (okp := fun _ => True) rfl (fun _ hk => hk) trivial (of_decide_eq_true (by first | (with_reducible assumption) | assumption)) (Nat.le_trans (Nat.mul_le_mul_right _ (of_decide_eq_true (by first | (with_reducible assumption) | assumption) : ji8.toNat ≤ 281474976710656)) (by omega)) (Below.refl _ _) (Nat.le_refl _) ?_; intro v350 w12 zD hb hg_ hnew_; clear hg_ hnew_; (first | rw [← Ny349.out] at zD | (simp only [Int.reduceToNat] at zD; rw [← Ny349.out] at zD)); have n0_ := Aside0.mk (Kd.R_lower zD (zk (by repeat (first | (with_reducible first | exact HB.out | apply zd | apply zb | apply zc | refine zh ?_ zC.out) | exact HB.out)))); have n1_ := Aside0.mk (zo (g := zB) (o := .cells #[.slice none 0 0, .slice none 0 0] 47 (0, 0)) (by (with_reducible repeat (first | refine zj ?_ _ | refine zl ?_ | refine zi ?_ _)); exact zA.out) hb); have n2_ := Aside0.mk (zm (by repeat (first | (with_reducible first | exact HB.out | apply zd | apply zb | apply zc | refine zh ?_ zC.out) | exact HB.out)) hb); clear zA; clear HB; have zE := n0_; have zA := n1_; have HB := n2_; clear n0_ n1_ n2_; clear hb zD; obtain ⟨Ao14, co14, eo14⟩ := Kd.R_slice zE.out; subst eo14; have zF : w12.cell? ⟨zB, 0, none⟩ = some (.slice none 0 0) := (ze zA.out 0).trans rfl; have zG : w12.cell? ⟨zB, 1, none⟩ = some (.slice none 0 0) := (ze zA.out 1).trans rfl; have zH := zg zA.out 0; have zI := zg zA.out 1))
     refine bodyPost_ret (results_cell_row rfl _ _ zB 47 #[.slice Ao14 y349.length co14, .slice none 0 0] (0, 0) _ rfl (by (with_reducible repeat (first | refine zj ?_ _ | refine zl ?_ | refine zi ?_ _)); refine zy (cs := #[.slice Ao14 y349.length co14, .slice none 0 0]) ?_ 1 _ rfl; (with_reducible repeat (first | refine zj ?_ _ | refine zl ?_ | refine zi ?_ _)); refine zy (cs := #[.slice none 0 0, .slice none 0 0]) ?_ 0 _ rfl; (with_reducible repeat (first | refine zj ?_ _ | refine zl ?_ | refine zi ?_ _)); exact zA.out) Tryd.underlying47 rfl (by kernel_rfl)) rfl ?_
     exact ⟨_, _, by first | rfl | (simp [errW_none, errW_some] <;> rfl) | (simp only [← hji8]; first | rfl | (simp [errW_none, errW_some] <;> rfl)) | (simp [*, errW_none, errW_some] <;> rfl), by (with_reducible repeat (first | apply Kd.R_alloc | apply Kd.R_drewN | apply Kd.R_drew)); exact Kd.R_mono (Kd.R_far (p := ⟨zB, 1, none⟩) (Kd.R_far (p := ⟨zB, 0, none⟩) (Kd.R_types zE.out zA.out (by decide)) (fun _ hk => hk.2) (.slice Ao14 y349.length co14)) (fun _ hk => hk.2) (.slice none 0 0)) (fun _ hk => trivial), by first | exact Kd.S_nil _ _ _ _ _ | exact Kd.N_nil _ _ _ _ _ | exact Kd.V_nil _ _ _ _ _ | exact Kd.Q_nil _ _ _ _ _ | exact Kd.R_nil _ _ _ _ _, by repeat (first | (with_reducible first | exact HB.out | apply zd | apply zb | apply zc | refine zh ?_ zC.out) | exact HB.out)⟩
    ·rw [if_neg c10] at H
     exact absurd H (by simp)
   ·rw [if_neg c9] at H
    exact absurd H (by simp)

def impl_Config_blocks.f (a0_0 : Int) (a0_1 : Int) : Option (Int) := some (wrap64 (2 + (wrap64 (2 * (wrap64 (a0_0 + a0_1))))))
set_option maxHeartbeats 8000000 in
set_option maxRecDepth 100000 in
theorem impl_Config_blocks.calls (a0_0 : Int) (a0_1 : Int) (r : Int) (w : World) (h : impl_Config_blocks.f a0_0 a0_1 = some r) :
  Calls Tryd.prog 81 #[.agg #[.int .i64 a0_0, .int .i64 a0_1]] w fun e w' => e = .returned (.int .i64 r) ∧ Below w.heap.size w w' := by
 have hu49 := Tryd.underlying49
 have HB := Aside0.mk (Below.refl w.heap.size w)
 have H : (some (wrap64 (2 + (wrap64 (2 * (wrap64 (a0_0 + a0_1))))))) = some r := h
 clear h
 obtain rfl := Option.some.inj H
 go_enter Tryd.func81, Tryd.ntmps81
 go_wp2_with (first | ((with_reducible refine zr (N := 1) rfl ?_); refine zu ?hg (N := 1) ?hd (cs := #[.int .i64 a0_0, .int .i64 a0_1]) (t := 49) ?hr ?_; (case hd => rfl); (case hg => rfl); (case hr => first | (go_simp; done) | (go_simp; rfl)); intro zA hg w2 hbox hb; have n0_ := Aside0.mk (zm (by repeat (first | (with_reducible first | exact HB.out | apply zd | apply zb | apply zc) | exact HB.out)) hb); have n1_ := Aside0.mk (hbox); have n2_ := Aside0.mk ((by rw [hg]; exact (zk (by repeat (first | (with_reducible first | exact HB.out | apply zd | apply zb | apply zc) | exact HB.out))) : w.heap.size ≤ zA)); have n3_ := Aside0.mk ((by rw [hg]; exact (zk (by repeat (first | (with_reducible first | exact HB.out | apply zd | apply zb | apply zc) | exact HB.out))) : w.heap.size ≤ zA)); clear HB; have HB := n0_; have zB := n1_; have GW352 := n2_; have zC := n3_; clear n0_ n1_ n2_ n3_; clear hb hbox hg; have zD : w2.cell? ⟨zA, 0, none⟩ = some (.int .i64 a0_0) := (ze zB.out 0).trans rfl; have zE : w2.cell? ⟨zA, 1, none⟩ = some (.int .i64 a0_1) := (ze zB.out 1).trans rfl; have zF := zg zB.out 0; have zG := zg zB.out 1))
 go_ret
 exact ⟨by first | rfl | (simp [errW_none, errW_some] <;> rfl) | (simp [*, errW_none, errW_some] <;> rfl), by repeat (first | (with_reducible first | exact HB.out | apply zd | apply zb | apply zc | refine zh ?_ zC.out) | exact HB.out)⟩

def impl_Config_area.f (a0_0 : Int) (a0_1 : Int) (a1 : Int) (a2 : Bool) : Option (Int × Int) := if a2 = true then (some (wrap64 ((wrap64 (2 + (wrap64 (a1 * (wrap64 (a0_0 + a0_1)))))) + a0_0), a0_1)) else (some (wrap64 (2 + (wrap64 (a1 * (wrap64 (a0_0 + a0_1))))), a0_0))
set_option maxHeartbeats 8000000 in
set_option maxRecDepth 100000 in
theorem impl_Config_area.calls (a0_0 : Int) (a0_1 : Int) (a1 : Int) (a2 : Bool) (r1 : Int) (r2 : Int) (w : World) (h : impl_Config_area.f a0_0 a0_1 a1 a2 = some (r1, r2)) :
  Calls Tryd.prog 82 #[.agg #[.int .i64 a0_0, .int .i64 a0_1], .int .i64 a1, .bool a2] w fun e w' => e = .returned (.tuple #[.int .i64 r1, .int .i64 r2]) ∧ Below w.heap.size w w' := by
 have hu49 := Tryd.underlying49
 have HB := Aside0.mk (Below.refl w.heap.size w)
 have H : (if a2 = true then (some (wrap64 ((wrap64 (2 + (wrap64 (a1 * (wrap64 (a0_0 + a0_1)))))) + a0_0), a0_1)) else (some (wrap64 (2 + (wrap64 (a1 * (wrap64 (a0_0 + a0_1))))), a0_0))) = some (r1, r2) := h
 clear h
 by_cases c4 : a2 = true
 ·subst c4
  have H1 : (some (wrap64 ((wrap64 (2 + (wrap64 (a1 * (wrap64 (a0_0 + a0_1)))))) + a0_0), a0_1)) = some (r1, r2) := by rw [if_pos rfl] at H; exact H
  clear H
  have H := H1
  clear H1
  simp only [Option.some.injEq, Prod.mk.injEq] at H
  obtain ⟨rfl, rfl⟩ := H
  go_enter Tryd.func82, Tryd.ntmps82
  go_wp2_with (first | ((with_reducible refine zr (N := 3) rfl ?_); refine zu ?hg (N := 3) ?hd (cs := #[.int .i64 a0_0, .int .i64 a0_1]) (t := 49) ?hr ?_; (case hd => rfl); (case hg => rfl); (case hr => first | (go_simp; done) | (go_simp; rfl)); intro zA hg w5 hbox hb; have n0_ := Aside0.mk (zm (by repeat (first | (with_reducible first | exact HB.out | apply zd | apply zb | apply zc) | exact HB.out)) hb); have n1_ := Aside0.mk (hbox); have n2_ := Aside0.mk ((by rw [hg]; exact (zk (by repeat (first | (with_reducible first | exact HB.out | apply zd | apply zb | apply zc) | exact HB.out))) : w.heap.size ≤ zA)); have n3_ := Aside0.mk ((by rw [hg]; exact (zk (by repeat (first | (with_reducible first | exact HB.out | apply zd | apply zb | apply zc) | exact HB.out))) : w.heap.size ≤ zA)); clear HB; have HB := n0_; have zB := n1_; have GW353 := n2_; have zC := n3_; clear n0_ n1_ n2_ n3_; clear hb hbox hg; have zD : w5.cell? ⟨zA, 0, none⟩ = some (.int .i64 a0_0) := (ze zB.out 0).trans rfl; have zE : w5.cell? ⟨zA, 1, none⟩ = some (.int .i64 a0_1) := (ze zB.out 1).trans rfl; have zF := zg zB.out 0; have zG := zg zB.out 1))
  repeat (go_quiet (first | ((with_reducible refine zr (N := 3) rfl ?_); refine zu ?hg (N := 3) ?hd (cs := #[.int .i64 a0_0, .int .i64 a0_1]) (t := 49) ?hr ?_; (case hd => rfl); (case hg => rfl); (case hr => first | (go_simp; done) | (go_simp; rfl)); intro zA hg w5 hbox hb; have n0_ := Aside0.mk (zm (by repeat (first | (with_reducible first | exact HB.out | apply zd | apply zb | apply zc) | exact HB.out)) hb); have n1_ := Aside0.mk (hbox); have n2_ := Aside0.mk ((by rw [hg]; exact (zk (by repeat (first | (with_reducible first | exact HB.out | apply zd | apply zb | apply zc) | exact HB.out))) : w.heap.size ≤ zA)); have n3_ := Aside0.mk ((by rw [hg]; exact (zk (by repeat (first | (with_reducible first | exact HB.out | apply zd | apply zb | apply zc) | exact HB.out))) : w.heap.size ≤ zA)); clear HB; have HB := n0_; have zB := n1_; have GW353 := n2_; have zC := n3_; clear n0_ n1_ n2_ n3_; clear hb hbox hg; have zD : w5.cell? ⟨zA, 0, none⟩ = some (.int .i64 a0_0) := (ze zB.out 0).trans rfl; have zE : w5.cell? ⟨zA, 1, none⟩ = some (.int .i64 a0_1) := (ze zB.out 1).trans rfl; have zF := zg zB.out 0; have zG := zg zB.out 1)); try go_wp2_with (first | ((with_reducible refine zr (N := 3) rfl ?_); refine zu ?hg (N := 3) ?hd (cs := #[.int .i64 a0_0, .int .i64 a0_1]) (t := 49) ?hr ?_; (case hd => rfl); (case hg => rfl); (case hr => first | (go_simp; done) | (go_simp; rfl)); intro zA hg w5 hbox hb; have n0_ := Aside0.mk (zm (by repeat (first | (with_reducible first | exact HB.out | apply zd | apply zb | apply zc) | exact HB.out)) hb); have n1_ := Aside0.mk (hbox); have n2_ := Aside0.mk ((by rw [hg]; exact (zk (by repeat (first | (with_reducible first | exact HB.out | apply zd | apply zb | apply zc) | exact HB.out))) : w.heap.size ≤ zA)); have n3_ := Aside0.mk ((by rw [hg]; exact (zk (by repeat (first | (with_reducible first | exact HB.out | apply zd | apply zb | apply zc) | exact HB.out))) : w.heap.size ≤ zA)); clear HB; have HB := n0_; have zB := n1_; have GW353 := n2_; have zC := n3_; clear n0_ n1_ n2_ n3_; clear hb hbox hg; have zD : w5.cell? ⟨zA, 0, none⟩ = some (.int .i64 a0_0) := (ze zB.out 0).trans rfl; have zE : w5.cell? ⟨zA, 1, none⟩ = some (.int .i64 a0_1) := (ze zB.out 1).trans rfl; have zF := zg zB.out 0; have zG := zg zB.out 1)))
  go_ret2
  exact ⟨by first | rfl | (simp [errW_none, errW_some] <;> rfl) | (simp [*, errW_none, errW_some] <;> rfl), by repeat (first | (with_reducible first | exact HB.out | apply zd | apply zb | apply zc | refine zh ?_ zC.out) | exact HB.out)⟩
 ·replace c4 := Bool.eq_false_iff.mpr c4
  subst c4
  have H1 : (some (wrap64 (2 + (wrap64 (a1 * (wrap64 (a0_0 + a0_1))))), a0_0)) = some (r1, r2) := by rw [if_neg (show ¬ (false = true) by decide)] at H; exact H
  clear H
  have H := H1
  clear H1
  simp only [Option.some.injEq, Prod.mk.injEq] at H
  obtain ⟨rfl, rfl⟩ := H
  go_enter Tryd.func82, Tryd.ntmps82
  go_wp2_with (first | ((with_reducible refine zr (N := 3) rfl ?_); refine zu ?hg (N := 3) ?hd (cs := #[.int .i64 a0_0, .int .i64 a0_1]) (t := 49) ?hr ?_; (case hd => rfl); (case hg => rfl); (case hr => first | (go_simp; done) | (go_simp; rfl)); intro zA hg w7 hbox hb; have n0_ := Aside0.mk (zm (by repeat (first | (with_reducible first | exact HB.out | apply zd | apply zb | apply zc) | exact HB.out)) hb); have n1_ := Aside0.mk (hbox); have n2_ := Aside0.mk ((by rw [hg]; exact (zk (by repeat (first | (with_reducible first | exact HB.out | apply zd | apply zb | apply zc) | exact HB.out))) : w.heap.size ≤ zA)); have n3_ := Aside0.mk ((by rw [hg]; exact (zk (by repeat (first | (with_reducible first | exact HB.out | apply zd | apply zb | apply zc) | exact HB.out))) : w.heap.size ≤ zA)); clear HB; have HB := n0_; have zB := n1_; have GW353 := n2_; have zC := n3_; clear n0_ n1_ n2_ n3_; clear hb hbox hg; have zH : w7.cell? ⟨zA, 0, none⟩ = some (.int .i64 a0_0) := (ze zB.out 0).trans rfl; have zI : w7.cell? ⟨zA, 1, none⟩ = some (.int .i64 a0_1) := (ze zB.out 1).trans rfl; have zJ := zg zB.out 0; have zK := zg zB.out 1))
  repeat (go_quiet (first | ((with_reducible refine zr (N := 3) rfl ?_); refine zu ?hg (N := 3) ?hd (cs := #[.int .i64 a0_0, .int .i64 a0_1]) (t := 49) ?hr ?_; (case hd => rfl); (case hg => rfl); (case hr => first | (go_simp; done) | (go_simp; rfl)); intro zA hg w7 hbox hb; have n0_ := Aside0.mk (zm (by repeat (first | (with_reducible first | exact HB.out | apply zd | apply zb | apply zc) | exact HB.out)) hb); have n1_ := Aside0.mk (hbox); have n2_ := Aside0.mk ((by rw [hg]; exact (zk (by repeat (first | (with_reducible first | exact HB.out | apply zd | apply zb | apply zc) | exact HB.out))) : w.heap.size ≤ zA)); have n3_ := Aside0.mk ((by rw [hg]; exact (zk (by repeat (first | (with_reducible first | exact HB.out | apply zd | apply zb | apply zc) | exact HB.out))) : w.heap.size ≤ zA)); clear HB; have HB := n0_; have zB := n1_; have GW353 := n2_; have zC := n3_; clear n0_ n1_ n2_ n3_; clear hb hbox hg; have zH : w7.cell? ⟨zA, 0, none⟩ = some (.int .i64 a0_0) := (ze zB.out 0).trans rfl; have zI : w7.cell? ⟨zA, 1, none⟩ = some (.int .i64 a0_1) := (ze zB.out 1).trans rfl; have zJ := zg zB.out 0; have zK := zg zB.out 1)); try go_wp2_with (first | ((with_reducible refine zr (N := 3) rfl ?_); refine zu ?hg (N := 3) ?hd (cs := #[.int .i64 a0_0, .int .i64 a0_1]) (t := 49) ?hr ?_; (case hd => rfl); (case hg => rfl); (case hr => first | (go_simp; done) | (go_simp; rfl)); intro zA hg w7 hbox hb; have n0_ := Aside0.mk (zm (by repeat (first | (with_reducible first | exact HB.out | apply zd | apply zb | apply zc) | exact HB.out)) hb); have n1_ := Aside0.mk (hbox); have n2_ := Aside0.mk ((by rw [hg]; exact (zk (by repeat (first | (with_reducible first | exact HB.out | apply zd | apply zb | apply zc) | exact HB.out))) : w.heap.size ≤ zA)); have n3_ := Aside0.mk ((by rw [hg]; exact (zk (by repeat (first | (with_reducible first | exact HB.out | apply zd | apply zb | apply zc) | exact HB.out))) : w.heap.size ≤ zA)); clear HB; have HB := n0_; have zB := n1_; have GW353 := n2_; have zC := n3_; clear n0_ n1_ n2_ n3_; clear hb hbox hg; have zH : w7.cell? ⟨zA, 0, none⟩ = some (.int .i64 a0_0) := (ze zB.out 0).trans rfl; have zI : w7.cell? ⟨zA, 1, none⟩ = some (.int .i64 a0_1) := (ze zB.out 1).trans rfl; have zJ := zg zB.out 0; have zK := zg zB.out 1)))
  go_ret2
  exact ⟨by first | rfl | (simp [errW_none, errW_some] <;> rfl) | (simp [*, errW_none, errW_some] <;> rfl), by repeat (first | (with_reducible first | exact HB.out | apply zd | apply zb | apply zc | refine zh ?_ zC.out) | exact HB.out)⟩

def impl_Super_block.f (k : Nat) (a0_0 : Int) (a0_1 : Int) (a0_2 : Int) (a0_3 : Int) (a0_4 : Int) : Option (List Int) := ((impl_big.f k ([] : List Int) 8 a0_0).bind fun t355 => ((impl_big.f k t355 1 a0_1).bind fun t358 => ((impl_big.f k t358 4 a0_2).bind fun t361 => ((impl_big.f k t361 4 a0_3).bind fun t364 => ((impl_big.f k t364 4 a0_4).bind fun t367 => (if 0 ≤ (wrap64 (56 - (t367.length : Int))) then (if t367.length + (wrap64 (56 - (t367.length : Int)) : Int).toNat < 140737488355328 then ((impl_big.f k (t367 ++ List.replicate (wrap64 (56 - (t367.length : Int)) : Int).toNat 0) 8 a0_0).bind fun t373 => (some t373)) else (none)) else (none))))))).bind fun r_ => if r_.length = 64 then some r_ else none
theorem impl_Super_block.mono : ∀ a0 a1 a2 a3 a4 k, LeO (impl_Super_block.f k a0 a1 a2 a3 a4) (impl_Super_block.f (k + 1) a0 a1 a2 a3 a4) := by
 intro a0 a1 a2 a3 a4 k
 unfold impl_Super_block.f
 repeat' first
   | (with_reducible exact impl_big.mono _ _ _ _)
   | (with_reducible exact LeO.refl _)
   | (with_reducible exact LeO.none _)
   | (with_reducible refine LeO.ite ?_ ?_)
   | (with_reducible refine LeO.bind ?_ (fun _ => ?_))
   | exact impl_big.mono _ _ _ _
   | exact LeO.none _
   | refine LeO.ite ?_ ?_
   | refine LeO.bind ?_ (fun _ => ?_)
def impl_Super_block.T2 : Bool × List (List Nat × List Nat) := (true, [([], []), ([], []), ([1], [1]), ([0, 2], [0, 2]), ([], []), ([4], [4]), ([3, 5, 3], [3, 5]), ([], []), ([7], [7]), ([6, 8, 6], [6, 8]), ([], []), ([10], [10]), ([9, 11, 9], [9, 11]), ([12, 12, 0, 1, 2, 3, 4, 5, 6, 7, 8, 9, 10, 11, 12], [0, 12])])
def impl_Super_block.B2 : List Nat := [0, 0, 2, 7, 0, 16, 63, 0, 128, 511, 0, 1024, 4095, 8191]
theorem impl_Super_block.tab2 : rtab .any (opsOf Tryd.f84 2) = impl_Super_block.T2 := by kernel_rfl
theorem impl_Super_block.bits2 : waitsOk impl_Super_block.T2.2 impl_Super_block.B2 = true := by kernel_rfl
set_option maxHeartbeats 8000000 in
set_option maxRecDepth 100000 in
theorem impl_Super_block.calls (k : Nat) (a0_0 : Int) (a0_1 : Int) (a0_2 : Int) (a0_3 : Int) (a0_4 : Int) (r : List Int) (w : World) (h : impl_Super_block.f k a0_0 a0_1 a0_2 a0_3 a0_4 = some r) :
  Calls Tryd.prog 84 #[.agg #[.int .i64 a0_0, .int .i64 a0_1, .int .i64 a0_2, .int .i64 a0_3, .int .i64 a0_4]] w fun e w' => e = .returned (.agg (r.map (Value.int .u8)).toArray) ∧ Below w.heap.size w w' := by
 have hu113 := Tryd.underlying113
 have HB := Aside0.mk (Below.refl w.heap.size w)
 have H : ((impl_big.f k ([] : List Int) 8 a0_0).bind fun t355 => ((impl_big.f k t355 1 a0_1).bind fun t358 => ((impl_big.f k t358 4 a0_2).bind fun t361 => ((impl_big.f k t361 4 a0_3).bind fun t364 => ((impl_big.f k t364 4 a0_4).bind fun t367 => (if 0 ≤ (wrap64 (56 - (t367.length : Int))) then (if t367.length + (wrap64 (56 - (t367.length : Int)) : Int).toNat < 140737488355328 then ((impl_big.f k (t367 ++ List.replicate (wrap64 (56 - (t367.length : Int)) : Int).toNat 0) 8 a0_0).bind fun t373 => (some t373)) else (none)) else (none))))))) = some r := (Go.Proofs.YtjoafknckmoojaaDoorH.guard_len h).1
 have HLEN := Aside0.mk (Go.Proofs.YtjoafknckmoojaaDoorH.guard_len h).2
 clear h
 replace H := Option.bind_eq_some_iff.mp H
 obtain ⟨t355, A20, H⟩ := H
 replace H : ((impl_big.f k t355 1 a0_1).bind fun t358 => ((impl_big.f k t358 4 a0_2).bind fun t361 => ((impl_big.f k t361 4 a0_3).bind fun t364 => ((impl_big.f k t364 4 a0_4).bind fun t367 => (if 0 ≤ (wrap64 (56 - (t367.length : Int))) then (if t367.length + (wrap64 (56 - (t367.length : Int)) : Int).toNat < 140737488355328 then ((impl_big.f k (t367 ++ List.replicate (wrap64 (56 - (t367.length : Int)) : Int).toNat 0) 8 a0_0).bind fun t373 => (some t373)) else (none)) else (none)))))) = some r := H
 have A2 := Aside0.mk A20
 clear A20
 replace H := Option.bind_eq_some_iff.mp H
 obtain ⟨t358, A30, H⟩ := H
 replace H : ((impl_big.f k t358 4 a0_2).bind fun t361 => ((impl_big.f k t361 4 a0_3).bind fun t364 => ((impl_big.f k t364 4 a0_4).bind fun t367 => (if 0 ≤ (wrap64 (56 - (t367.length : Int))) then (if t367.length + (wrap64 (56 - (t367.length : Int)) : Int).toNat < 140737488355328 then ((impl_big.f k (t367 ++ List.replicate (wrap64 (56 - (t367.length : Int)) : Int).toNat 0) 8 a0_0).bind fun t373 => (some t373)) else (none)) else (none))))) = some r := H
 have A3 := Aside0.mk A30
 clear A30
 replace H := Option.bind_eq_some_iff.mp H
 obtain ⟨t361, A40, H⟩ := H
 replace H : ((impl_big.f k t361 4 a0_3).bind fun t364 => ((impl_big.f k t364 4 a0_4).bind fun t367 => (if 0 ≤ (wrap64 (56 - (t367.length : Int))) then (if t367.length + (wrap64 (56 - (t367.length : Int)) : Int).toNat < 140737488355328 then ((impl_big.f k (t367 ++ List.replicate (wrap64 (56 - (t367.length : Int)) : Int).toNat 0) 8 a0_0).bind fun t373 => (some t373)) else (none)) else (none)))) = some r := H
 have A4 := Aside0.mk A40
 clear A40
 replace H := Option.bind_eq_some_iff.mp H
 obtain ⟨t364, A50, H⟩ := H
 replace H : ((impl_big.f k t364 4 a0_4).bind fun t367 => (if 0 ≤ (wrap64 (56 - (t367.length : Int))) then (if t367.length + (wrap64 (56 - (t367.length : Int)) : Int).toNat < 140737488355328 then ((impl_big.f k (t367 ++ List.replicate (wrap64 (56 - (t367.length : Int)) : Int).toNat 0) 8 a0_0).bind fun t373 => (some t373)) else (none)) else (none))) = some r := H
 have A5 := Aside0.mk A50
 clear A50
 replace H := Option.bind_eq_some_iff.mp H
 obtain ⟨t367, A60, H⟩ := H
 replace H : (if 0 ≤ (wrap64 (56 - (t367.length : Int))) then (if t367.length + (wrap64 (56 - (t367.length : Int)) : Int).toNat < 140737488355328 then ((impl_big.f k (t367 ++ List.replicate (wrap64 (56 - (t367.length : Int)) : Int).toNat 0) 8 a0_0).bind fun t373 => (some t373)) else (none)) else (none)) = some r := H
 have A6 := Aside0.mk A60
 clear A60
 obtain ⟨ji7, hji7⟩ : ∃ j_ : Int, (wrap64 (56 - (t367.length : Int))) = j_ := ⟨_, rfl⟩
 replace H : (if 0 ≤ (ji7) then (if t367.length + (ji7 : Int).toNat < 140737488355328 then ((impl_big.f k (t367 ++ List.replicate (ji7 : Int).toNat 0) 8 a0_0).bind fun t373 => (some t373)) else (none)) else (none)) = some r := by first | (rw [hji7] at H; exact H) | (simp only [hji7] at H ⊢; exact H)
 (try rw [hji7] at A2)
 (try rw [hji7] at A3)
 (try rw [hji7] at A4)
 (try rw [hji7] at A5)
 (try rw [hji7] at A6)
 have hji7w : (IntKind.i64.wrap (56 - (t367.length : Int))) = ji7 := (zp _).trans hji7
 by_cases c8 : 0 ≤ (ji7)
 ·rw [if_pos c8] at H
  have c8b0 := eq_true c8
  have c8b1 : decide (0 ≤ (ji7)) = true := decide_eq_true c8
  clear c8
  by_cases c9 : t367.length + (ji7 : Int).toNat < 140737488355328
  ·rw [if_pos c9] at H
   have LMc9 := Aside0.mk c9
   clear c9
   obtain ⟨y370, hy370⟩ : ∃ y_ : List Int, y_ = (t367 ++ List.replicate (ji7 : Int).toNat 0) := ⟨_, rfl⟩
   replace H : ((impl_big.f k y370 8 a0_0).bind fun t373 => (some t373)) = some r := by first | (rw [hy370]; with_reducible exact H) | (have H2_ := (Option.bind_some _ _).symm.trans H; rw [hy370]; with_reducible exact H2_) | (have H2_ := (Option.bind_some _ _).symm.trans H; with_reducible exact H2_) | with_reducible exact H | (rw [hy370]; exact H) | exact H
   have Ny370 := Aside0.mk hy370
   clear hy370
   replace H := Option.bind_eq_some_iff.mp H
   obtain ⟨t373, A100, H⟩ := H
   replace H : (some t373) = some r := H
   have A10 := Aside0.mk A100
   clear A100
   obtain rfl := Option.some.inj H
   go_enter Tryd.func84, Tryd.ntmps84
   try go_wp2_with (first | ((with_reducible refine zr (N := 1) rfl ?_); refine zu ?hg (N := 1) ?hd (cs := #[.int .i64 a0_0, .int .i64 a0_1, .int .i64 a0_2, .int .i64 a0_3, .int .i64 a0_4]) (t := 113) ?hr ?_; (case hd => rfl); (case hg => rfl); (case hr => first | (go_simp; done) | (go_simp; rfl)); intro zC hg w11 hbox hb; have n0_ := Aside0.mk (zm (by repeat (first | (with_reducible first | exact HB.out | apply zd | apply zb | apply zc) | exact HB.out)) hb); have n1_ := Aside0.mk (hbox); have n2_ := Aside0.mk ((by rw [hg]; exact (zk (by repeat (first | (with_reducible first | exact HB.out | apply zd | apply zb | apply zc) | exact HB.out))) : w.heap.size ≤ zC)); have n3_ := Aside0.mk ((by rw [hg]; exact (zk (by repeat (first | (with_reducible first | exact HB.out | apply zd | apply zb | apply zc) | exact HB.out))) : w.heap.size ≤ zC)); clear HB; have HB := n0_; have zA := n1_; have GW354 := n2_; have zF := n3_; clear n0_ n1_ n2_ n3_; clear hb hbox hg; have zY : w11.cell? ⟨zC, 0, none⟩ = some (.int .i64 a0_0) := (ze zA.out 0).trans rfl; have zZ : w11.cell? ⟨zC, 1, none⟩ = some (.int .i64 a0_1) := (ze zA.out 1).trans rfl; have zab : w11.cell? ⟨zC, 2, none⟩ = some (.int .i64 a0_2) := (ze zA.out 2).trans rfl; have zbb : w11.cell? ⟨zC, 3, none⟩ = some (.int .i64 a0_3) := (ze zA.out 3).trans rfl; have zcb : w11.cell? ⟨zC, 4, none⟩ = some (.int .i64 a0_4) := (ze zA.out 4).trans rfl; have zdb := zg zA.out 0; have zeb := zg zA.out 1; have zfb := zg zA.out 2; have zgb := zg zA.out 3; have zhb := zg zA.out 4) | ((with_reducible refine zr (N := 2) rfl ?_); refine Go.Proofs.YtjoafknckmoojaaDoorH.alloc_arr rfl (t := 123) rfl (N := 2) rfl (zs := (Array.replicate 64 (.int .u8 0))) (n := 64) (by kernel_rfl) ?_; intro zL hg w998 hbox hb _; have n0_ := Aside0.mk (zm HB.out hb); have n1_ := Aside0.mk (zo zA.out hb); have zB := Aside0.mk hbox; have zN := Aside0.mk ((by rw [hg]; exact zk HB.out) : w.heap.size ≤ zL); clear HB; clear zA; have HB := n0_; have zA := n1_; clear n0_ n1_; clear hb hbox hg; have zO : w998.cell? ⟨zC, 0, none⟩ = some (.int .i64 a0_0) := (ze zA.out 0).trans rfl; have zP : w998.cell? ⟨zC, 1, none⟩ = some (.int .i64 a0_1) := (ze zA.out 1).trans rfl; have zQ : w998.cell? ⟨zC, 2, none⟩ = some (.int .i64 a0_2) := (ze zA.out 2).trans rfl; have zR : w998.cell? ⟨zC, 3, none⟩ = some (.int .i64 a0_3) := (ze zA.out 3).trans rfl; have zS : w998.cell? ⟨zC, 4, none⟩ = some (.int .i64 a0_4) := (ze zA.out 4).trans rfl; have zT := zg zA.out 0; have zU := zg zA.out 1; have zV := zg zA.out 2; have zW := zg zA.out 3; have zX := zg zA.out 4) | ((with_reducible refine zn (f := 146) rfl ?_); refine zx (some 6) rfl rfl Tryd.func146 (by kernel_rfl) rfl #[.slice none 0 0, .int .i64 8, .int .i64 a0_0] rfl (by (try simp only [List.map_toArray, List.map_cons, List.map_nil]); first | done | rfl | (simp only [List.length_drop, List.length_take]; rfl)) ?_; (refine (impl_big.calls k (fun k_ => some k_ = (.slice none 0 0 : Value).ownBlock) (.slice none 0 0) ([] : List Int) 8 a0_0 t355 w _ ?side1 ?side2 A2.out).mono ?_); (case side1 => repeat (first | (with_reducible first | exact HB.out | apply zd | apply zb | apply zc | refine zh ?_ zF.out) | exact HB.out)); (case side2 => exact Kd.R_nil _ _ _ _ _); rintro e w13 ⟨v356, rfl, zD, hb, hkp⟩; refine ⟨_, rfl, ?_⟩; have n0_ := Aside0.mk (blk_kept (by (with_reducible repeat (first | refine zj ?_ _ | refine zl ?_ | refine zi ?_ _)); exact zA.out) hkp (fun hs_ => (fun e_ => by simp [Value.ownBlock] at e_) hs_)); have n999_ := Aside0.mk (blk_kept (by (with_reducible repeat (first | refine zj ?_ _ | refine zl ?_ | refine zi ?_ _)); exact zB.out) hkp (fun hs_ => (fun e_ => by simp [Value.ownBlock] at e_) hs_)); have n1_ := Aside0.mk (Kd.R_mono (ok' := fun k_ => True) zD (fun k_ hk_ => trivial)); have n2_ := Aside0.mk (hb); clear zA; clear zB; clear HB; have zA := n0_; have zB := n999_; clear n999_; have zE := n1_; have HB := n2_; clear n0_ n1_ n2_; (try clear hb); (try clear hkp); (try clear zD)))
   have n0_ := Aside0.mk (Kd.R_drew zE.out)
   have n1_ := Aside0.mk (zl zA.out); have n999_ := Aside0.mk (zl zB.out)
   have n2_ := Aside0.mk (zc HB.out)
   clear zE
   clear zA; clear zB
   clear HB
   have zE := n0_
   have zA := n1_; have zB := n999_; clear n999_
   have HB := n2_
   clear n0_ n1_ n2_
   obtain ⟨Ao15, co15, eo15⟩ := Kd.R_slice zE.out
   (first | subst eo15 | (injection eo15 with f1_ f2_ f3_; have f4_ := f1_.symm; have f5_ := f3_.symm; clear f1_ f2_ f3_; subst f4_; subst f5_))
   refine start_ (n := 14) (S := fun w' => w'.cell? ⟨zC, 0, none⟩ = some (.int .i64 a0_0) ∧ w'.cell? ⟨zC, 1, none⟩ = some (.int .i64 a0_1) ∧ w'.cell? ⟨zC, 2, none⟩ = some (.int .i64 a0_2) ∧ w'.cell? ⟨zC, 3, none⟩ = some (.int .i64 a0_3) ∧ w'.cell? ⟨zC, 4, none⟩ = some (.int .i64 a0_4)) (ds := []) #[false, false, false, false, false, false, false, false, false, false, false, false, false, false] (by kernel_rfl) rfl rfl ⟨(ze zA.out 0).trans rfl, (ze zA.out 1).trans rfl, (ze zA.out 2).trans rfl, (ze zA.out 3).trans rfl, (ze zA.out 4).trans rfl⟩ (fun hHeld => ?_); refine with_tabW impl_Super_block.tab2 impl_Super_block.bits2 (fun HT_ HW_ => ?_)
   generalize w13.drew = w14 at zE zA zB HB hHeld ⊢
   refine zv (i := 0) (N := some 7) (v := ?_) (a' := ?_) #[true, false, false, false, false, false, false, false, false, false, false, false, false, false] rfl rfl (zt HT_.out (by kernel_rfl)) (fun _ _ _ h => h) (Or.inl ⟨by rfl, ?_⟩) ?_ ?_
   rotate_left
   ·intro w'
    go_simp
    with_reducible rfl
   rotate_left
   ·simp only [Act.put, List.setIfInBounds_toArray, List.set_cons_zero, List.set_cons_succ, zp, zq]
    rfl
   refine zv (i := 1) (N := some 8) (v := ?_) (a' := ?_) #[true, true, false, false, false, false, false, false, false, false, false, false, false, false] rfl rfl (zt HT_.out (by kernel_rfl)) (fun _ _ _ h => h) (Or.inl ⟨by rfl, ?_⟩) ?_ ?_
   rotate_left
   ·intro w'
    go_simp
    with_reducible rfl
   rotate_left
   ·simp only [Act.put, List.setIfInBounds_toArray, List.set_cons_zero, List.set_cons_succ, zp, zq]
    rfl
   refine zv (i := 4) (N := some 11) (v := ?_) (a' := ?_) #[true, true, false, false, true, false, false, false, false, false, false, false, false, false] rfl rfl (zt HT_.out (by kernel_rfl)) (fun _ _ _ h => h) (Or.inl ⟨by rfl, ?_⟩) ?_ ?_
   rotate_left
   ·intro w'
    go_simp
    with_reducible rfl
   rotate_left
   ·simp only [Act.put, List.setIfInBounds_toArray, List.set_cons_zero, List.set_cons_succ, zp, zq]
    rfl
   refine zv (i := 7) (N := some 14) (v := ?_) (a' := ?_) #[true, true, false, false, true, false, false, true, false, false, false, false, false, false] rfl rfl (zt HT_.out (by kernel_rfl)) (fun _ _ _ h => h) (Or.inl ⟨by rfl, ?_⟩) ?_ ?_
   rotate_left
   ·intro w'
    go_simp
    with_reducible rfl
   rotate_left
   ·simp only [Act.put, List.setIfInBounds_toArray, List.set_cons_zero, List.set_cons_succ, zp, zq]
    rfl
   refine zv (i := 10) (N := some 17) (v := ?_) (a' := ?_) #[true, true, false, false, true, false, false, true, false, false, true, false, false, false] rfl rfl (zt HT_.out (by kernel_rfl)) (fun _ _ _ h => h) (Or.inl ⟨by rfl, ?_⟩) ?_ ?_
   rotate_left
   ·intro w'
    go_simp
    with_reducible rfl
   rotate_left
   ·simp only [Act.put, List.setIfInBounds_toArray, List.set_cons_zero, List.set_cons_succ, zp, zq]
    rfl
   refine take_ (i := 2) (N := some 9) (v := ?_) (a' := ?_) #[true, true, true, false, true, false, false, true, false, false, true, false, false, false] rfl rfl (take_ofW HT_.out HW_.out (by kernel_rfl)) (fun _ _ _ h => h) (Or.inl ⟨by rfl, ?_⟩) hHeld ?_ ?_
   rotate_left
   ·rintro w' ⟨s0, s1, s2, s3, s4⟩
    go_simp
    with_reducible rfl
   rotate_left
   ·simp only [Act.put, List.setIfInBounds_toArray, List.set_cons_zero, List.set_cons_succ, zp, zq]
    rfl
   refine take_ (i := 5) (N := some 12) (v := ?_) (a' := ?_) #[true, true, true, false, true, true, false, true, false, false, true, false, false, false] rfl rfl (take_ofW HT_.out HW_.out (by kernel_rfl)) (fun _ _ _ h => h) (Or.inl ⟨by rfl, ?_⟩) hHeld ?_ ?_
   rotate_left
   ·rintro w' ⟨s0, s1, s2, s3, s4⟩
    go_simp
    with_reducible rfl
   rotate_left
   ·simp only [Act.put, List.setIfInBounds_toArray, List.set_cons_zero, List.set_cons_succ, zp, zq]
    rfl
   refine take_ (i := 8) (N := some 15) (v := ?_) (a' := ?_) #[true, true, true, false, true, true, false, true, true, false, true, false, false, false] rfl rfl (take_ofW HT_.out HW_.out (by kernel_rfl)) (fun _ _ _ h => h) (Or.inl ⟨by rfl, ?_⟩) hHeld ?_ ?_
   rotate_left
   ·rintro w' ⟨s0, s1, s2, s3, s4⟩
    go_simp
    with_reducible rfl
   rotate_left
   ·simp only [Act.put, List.setIfInBounds_toArray, List.set_cons_zero, List.set_cons_succ, zp, zq]
    rfl
   refine take_ (i := 11) (N := some 18) (v := ?_) (a' := ?_) #[true, true, true, false, true, true, false, true, true, false, true, true, false, false] rfl rfl (take_ofW HT_.out HW_.out (by kernel_rfl)) (fun _ _ _ h => h) (Or.inl ⟨by rfl, ?_⟩) hHeld ?_ ?_
   rotate_left
   ·rintro w' ⟨s0, s1, s2, s3, s4⟩
    go_simp
    with_reducible rfl
   rotate_left
   ·simp only [Act.put, List.setIfInBounds_toArray, List.set_cons_zero, List.set_cons_succ, zp, zq]
    rfl
   refine one_ (i := 3) (N := some 10) #[true, true, true, true, true, true, false, true, true, false, true, true, false, false] rfl rfl (one_of HT_.out (by kernel_rfl)) (by decide) (fun K hK => ?_)
   refine goes_ Tryd.func146 (by kernel_rfl) rfl #[.slice Ao15 t355.length co15, .int .i64 1, .int .i64 a0_1] (by rfl) rfl rfl (by (try simp only [List.map_toArray, List.map_cons, List.map_nil]); first | done | rfl | (simp only [List.length_drop, List.length_take]; rfl)) ?_
   with_reducible refine (impl_big.calls k (fun k_ => some k_ = (.slice Ao15 t355.length co15 : Value).ownBlock) (.slice Ao15 t355.length co15) t355 1 a0_1 t358 w _ ?side1 ?side2 A3.out).mono ?_
   (case side1 => repeat (first | (with_reducible first | exact HB.out | apply zd | apply zb | apply zc | refine zh ?_ zF.out) | exact HB.out))
   (case side2 => exact Kd.R_tight rfl zE.out)
   rintro e w16 ⟨v359, rfl, zD, hb, hkp⟩
   refine ⟨_, rfl, ?_⟩
   have n0_ := Aside0.mk (blk_kept (by (with_reducible repeat (first | refine zj ?_ _ | refine zl ?_ | refine zi ?_ _)); exact zA.out) hkp (fun hs_ => (fun e_ => (Kd.R_ne zE.out zA.out (by decide)) e_) hs_)); have n999_ := Aside0.mk (blk_kept (by (with_reducible repeat (first | refine zj ?_ _ | refine zl ?_ | refine zi ?_ _)); exact zB.out) hkp (fun hs_ => (fun e_ => (Kd.R_ne zE.out zB.out (by decide)) e_) hs_))
   have n1_ := Aside0.mk (Kd.R_mono (ok' := fun k_ => True) zD (fun k_ hk_ => trivial))
   have n2_ := Aside0.mk (hb)
   clear zA; clear zB
   clear HB
   clear zE
   have zA := n0_; have zB := n999_; clear n999_
   have zG := n1_
   have HB := n2_
   clear n0_ n1_ n2_
   (try clear hb)
   (try clear hkp)
   (try clear zD)
   obtain ⟨Ao17, co17, eo17⟩ := Kd.R_slice zG.out
   (first | subst eo17 | (injection eo17 with f1_ f2_ f3_; have f4_ := f1_.symm; have f5_ := f3_.symm; clear f1_ f2_ f3_; subst f4_; subst f5_))
   refine hK.out _ _ ⟨(ze zA.out 0).trans rfl, (ze zA.out 1).trans rfl, (ze zA.out 2).trans rfl, (ze zA.out 3).trans rfl, (ze zA.out 4).trans rfl⟩ (fun hHeld => ?_)
   clear hK K
   refine norm_ (a' := ?_) ?_ ?_
   rotate_left
   ·show Act.put _ (some 10) _ = _
    simp only [Act.put, List.setIfInBounds_toArray, List.set_cons_zero, List.set_cons_succ, zp, zq]
    rfl
   refine one_ (i := 6) (N := some 13) #[true, true, true, true, true, true, true, true, true, false, true, true, false, false] rfl rfl (one_of HT_.out (by kernel_rfl)) (by decide) (fun K hK => ?_)
   refine goes_ Tryd.func146 (by kernel_rfl) rfl #[.slice Ao17 t358.length co17, .int .i64 4, .int .i64 a0_2] (by rfl) rfl rfl (by (try simp only [List.map_toArray, List.map_cons, List.map_nil]); first | done | rfl | (simp only [List.length_drop, List.length_take]; rfl)) ?_
   with_reducible refine (impl_big.calls k (fun k_ => some k_ = (.slice Ao17 t358.length co17 : Value).ownBlock) (.slice Ao17 t358.length co17) t358 4 a0_2 t361 w _ ?side1 ?side2 A4.out).mono ?_
   (case side1 => repeat (first | (with_reducible first | exact HB.out | apply zd | apply zb | apply zc | refine zh ?_ zF.out) | exact HB.out))
   (case side2 => exact Kd.R_tight rfl zG.out)
   rintro e w18 ⟨v362, rfl, zD, hb, hkp⟩
   refine ⟨_, rfl, ?_⟩
   have n0_ := Aside0.mk (blk_kept (by (with_reducible repeat (first | refine zj ?_ _ | refine zl ?_ | refine zi ?_ _)); exact zA.out) hkp (fun hs_ => (fun e_ => (Kd.R_ne zG.out zA.out (by decide)) e_) hs_)); have n999_ := Aside0.mk (blk_kept (by (with_reducible repeat (first | refine zj ?_ _ | refine zl ?_ | refine zi ?_ _)); exact zB.out) hkp (fun hs_ => (fun e_ => (Kd.R_ne zG.out zB.out (by decide)) e_) hs_))
   have n1_ := Aside0.mk (Kd.R_mono (ok' := fun k_ => True) zD (fun k_ hk_ => trivial))
   have n2_ := Aside0.mk (hb)
   clear zA; clear zB
   clear HB
   clear zG
   have zA := n0_; have zB := n999_; clear n999_
   have zH := n1_
   have HB := n2_
   clear n0_ n1_ n2_
   (try clear hb)
   (try clear hkp)
   (try clear zD)
   obtain ⟨Ao19, co19, eo19⟩ := Kd.R_slice zH.out
   (first | subst eo19 | (injection eo19 with f1_ f2_ f3_; have f4_ := f1_.symm; have f5_ := f3_.symm; clear f1_ f2_ f3_; subst f4_; subst f5_))
   refine hK.out _ _ ⟨(ze zA.out 0).trans rfl, (ze zA.out 1).trans rfl, (ze zA.out 2).trans rfl, (ze zA.out 3).trans rfl, (ze zA.out 4).trans rfl⟩ (fun hHeld => ?_)
   clear hK K
   refine norm_ (a' := ?_) ?_ ?_
   rotate_left
   ·show Act.put _ (some 13) _ = _
    simp only [Act.put, List.setIfInBounds_toArray, List.set_cons_zero, List.set_cons_succ, zp, zq]
    rfl
   refine one_ (i := 9) (N := some 16) #[true, true, true, true, true, true, true, true, true, true, true, true, false, false] rfl rfl (one_of HT_.out (by kernel_rfl)) (by decide) (fun K hK => ?_)
   refine goes_ Tryd.func146 (by kernel_rfl) rfl #[.slice Ao19 t361.length co19, .int .i64 4, .int .i64 a0_3] (by rfl) rfl rfl (by (try simp only [List.map_toArray, List.map_cons, List.map_nil]); first | done | rfl | (simp only [List.length_drop, List.length_take]; rfl)) ?_
   with_reducible refine (impl_big.calls k (fun k_ => some k_ = (.slice Ao19 t361.length co19 : Value).ownBlock) (.slice Ao19 t361.length co19) t361 4 a0_3 t364 w _ ?side1 ?side2 A5.out).mono ?_
   (case side1 => repeat (first | (with_reducible first | exact HB.out | apply zd | apply zb | apply zc | refine zh ?_ zF.out) | exact HB.out))
   (case side2 => exact Kd.R_tight rfl zH.out)
   rintro e w20 ⟨v365, rfl, zD, hb, hkp⟩
   refine ⟨_, rfl, ?_⟩
   have n0_ := Aside0.mk (blk_kept (by (with_reducible repeat (first | refine zj ?_ _ | refine zl ?_ | refine zi ?_ _)); exact zA.out) hkp (fun hs_ => (fun e_ => (Kd.R_ne zH.out zA.out (by decide)) e_) hs_)); have n999_ := Aside0.mk (blk_kept (by (with_reducible repeat (first | refine zj ?_ _ | refine zl ?_ | refine zi ?_ _)); exact zB.out) hkp (fun hs_ => (fun e_ => (Kd.R_ne zH.out zB.out (by decide)) e_) hs_))
   have n1_ := Aside0.mk (Kd.R_mono (ok' := fun k_ => True) zD (fun k_ hk_ => trivial))
   have n2_ := Aside0.mk (hb)
   clear zA; clear zB
   clear HB
   clear zH
   have zA := n0_; have zB := n999_; clear n999_
   have zI := n1_
   have HB := n2_
   clear n0_ n1_ n2_
   (try clear hb)
   (try clear hkp)
   (try clear zD)
   obtain ⟨Ao21, co21, eo21⟩ := Kd.R_slice zI.out
   (first | subst eo21 | (injection eo21 with f1_ f2_ f3_; have f4_ := f1_.symm; have f5_ := f3_.symm; clear f1_ f2_ f3_; subst f4_; subst f5_))
   refine hK.out _ _ ⟨(ze zA.out 0).trans rfl, (ze zA.out 1).trans rfl, (ze zA.out 2).trans rfl, (ze zA.out 3).trans rfl, (ze zA.out 4).trans rfl⟩ (fun hHeld => ?_)
   clear hK K
   refine norm_ (a' := ?_) ?_ ?_
   rotate_left
   ·show Act.put _ (some 16) _ = _
    simp only [Act.put, List.setIfInBounds_toArray, List.set_cons_zero, List.set_cons_succ, zp, zq]
    rfl
   refine one_ (i := 12) (N := some 19) #[true, true, true, true, true, true, true, true, true, true, true, true, true, false] rfl rfl (one_of HT_.out (by kernel_rfl)) (by decide) (fun K hK => ?_)
   refine goes_ Tryd.func146 (by kernel_rfl) rfl #[.slice Ao21 t364.length co21, .int .i64 4, .int .i64 a0_4] (by rfl) rfl rfl (by (try simp only [List.map_toArray, List.map_cons, List.map_nil]); first | done | rfl | (simp only [List.length_drop, List.length_take]; rfl)) ?_
   with_reducible refine (impl_big.calls k (fun k_ => some k_ = (.slice Ao21 t364.length co21 : Value).ownBlock) (.slice Ao21 t364.length co21) t364 4 a0_4 t367 w _ ?side1 ?side2 A6.out).mono ?_
   (case side1 => repeat (first | (with_reducible first | exact HB.out | apply zd | apply zb | apply zc | refine zh ?_ zF.out) | exact HB.out))
   (case side2 => exact Kd.R_tight rfl zI.out)
   rintro e w22 ⟨v368, rfl, zD, hb, hkp⟩
   refine ⟨_, rfl, ?_⟩
   have n0_ := Aside0.mk (blk_kept (by (with_reducible repeat (first | refine zj ?_ _ | refine zl ?_ | refine zi ?_ _)); exact zA.out) hkp (fun hs_ => (fun e_ => (Kd.R_ne zI.out zA.out (by decide)) e_) hs_)); have n999_ := Aside0.mk (blk_kept (by (with_reducible repeat (first | refine zj ?_ _ | refine zl ?_ | refine zi ?_ _)); exact zB.out) hkp (fun hs_ => (fun e_ => (Kd.R_ne zI.out zB.out (by decide)) e_) hs_))
   have n1_ := Aside0.mk (Kd.R_mono (ok' := fun k_ => True) zD (fun k_ hk_ => trivial))
   have n2_ := Aside0.mk (hb)
   clear zA; clear zB
   clear HB
   clear zI
   have zA := n0_; have zB := n999_; clear n999_
   have zJ := n1_
   have HB := n2_
   clear n0_ n1_ n2_
   (try clear hb)
   (try clear hkp)
   (try clear zD)
   refine hK.out _ _ ⟨(ze zA.out 0).trans rfl, (ze zA.out 1).trans rfl, (ze zA.out 2).trans rfl, (ze zA.out 3).trans rfl, (ze zA.out 4).trans rfl⟩ (fun hHeld => ?_)
   clear hK K
   refine norm_ (a' := ?_) ?_ ?_
   rotate_left
   ·show Act.put _ (some 19) _ = _
    simp only [Act.put, List.setIfInBounds_toArray, List.set_cons_zero, List.set_cons_succ, zp, zq]
    rfl
   refine zv (i := 13) (N := some 3) (v := ?_) (a' := ?_) #[true, true, true, true, true, true, true, true, true, true, true, true, true, true] rfl rfl (zt HT_.out (by kernel_rfl)) (fun _ _ _ h => h) (Or.inl ⟨by rfl, ?_⟩) ?_ ?_
   rotate_left
   ·intro w'
    go_simp
    with_reducible rfl
   rotate_left
   ·simp only [Act.put, List.setIfInBounds_toArray, List.set_cons_zero, List.set_cons_succ, zp, zq]
    rfl
   refine done_ (done_of HT_.out (by kernel_rfl)) ?_
   obtain ⟨Ao23, co23, eo23⟩ := Kd.R_slice zJ.out
   subst eo23
   try go_wp2_with (first | (at_builtin; refine Kd.R_append_zeros (Kd.int .u8) (w0 := w) w.heap.size rfl (.tmp 20) (.tmp 23) 22 3 5 (.int .u8 0) 1 rfl Tryd.underlying22 Tryd.underlying3 info5 rfl (by decide) (by omega) (.slice Ao23 t367.length co23) t367 0 (ji7 : Int) (fun _ => True) rfl rfl rfl ?aF ?aO (of_decide_eq_true (by first | (with_reducible assumption) | assumption)) ?aB ?aS ?aL ?_; (case aB => exact (by repeat (first | (with_reducible first | exact HB.out | apply zd | apply zb | apply zc | refine zh ?_ zF.out) | exact HB.out))); (case aF => exact (fun _ _ => trivial)); (case aO => exact (by (with_reducible repeat (first | apply Kd.R_alloc | apply Kd.R_drewN | apply Kd.R_drew)); exact zJ.out)); (case aS => exact (zk (by repeat (first | (with_reducible first | exact HB.out | apply zd | apply zb | apply zc | refine zh ?_ zF.out) | exact HB.out)))); (case aL => have := LMc9.out; omega); intro v371 w24 ho hb hg hat; rw [← Ny370.out] at ho; have n0_ := Aside0.mk (zz (g := zC) (o := .cells #[.int .i64 a0_0, .int .i64 a0_1, .int .i64 a0_2, .int .i64 a0_3, .int .i64 a0_4] 113 (0, 0)) (by (with_reducible repeat (first | refine zj ?_ _ | refine zl ?_ | refine zi ?_ _)); exact zA.out) hg (Kd.R_ne zJ.out zA.out (by decide))); have n999_ := Aside0.mk (zz (g := zL) (o := .cells (Array.replicate 64 (.int .u8 0)) 123 (0, 0)) (by (with_reducible repeat (first | refine zj ?_ _ | refine zl ?_ | refine zi ?_ _)); exact zB.out) hg (Kd.R_ne zJ.out zB.out (by decide))); have n1_ := Aside0.mk (hb); have n2_ := Aside0.mk (ho); clear zA; clear zB; clear HB; clear zJ; have zA := n0_; have zB := n999_; clear n999_; have HB := n1_; have zK := n2_; clear n0_ n1_ n2_; clear ho hb hg hat; have zib : w24.cell? ⟨zC, 0, none⟩ = some (.int .i64 a0_0) := (ze zA.out 0).trans rfl; have zjb : w24.cell? ⟨zC, 1, none⟩ = some (.int .i64 a0_1) := (ze zA.out 1).trans rfl; have zkb : w24.cell? ⟨zC, 2, none⟩ = some (.int .i64 a0_2) := (ze zA.out 2).trans rfl; have zlb : w24.cell? ⟨zC, 3, none⟩ = some (.int .i64 a0_3) := (ze zA.out 3).trans rfl; have zmb : w24.cell? ⟨zC, 4, none⟩ = some (.int .i64 a0_4) := (ze zA.out 4).trans rfl; have znb := zg zA.out 0; have zob := zg zA.out 1; have zpb := zg zA.out 2; have zqb := zg zA.out 3; have zrb := zg zA.out 4; obtain ⟨Ao26, co26, eo26⟩ := Kd.R_slice zK.out; subst eo26) | ((with_reducible refine zn (f := 146) rfl ?_); refine zx (some 28) rfl rfl Tryd.func146 (by kernel_rfl) rfl #[.slice Ao26 y370.length co26, .int .i64 8, .int .i64 a0_0] rfl (by (try simp only [List.map_toArray, List.map_cons, List.map_nil]); first | done | rfl | (simp only [List.length_drop, List.length_take]; rfl)) ?_; (with_reducible refine (impl_big.calls k (fun k_ => some k_ = (.slice Ao26 y370.length co26 : Value).ownBlock) (.slice Ao26 y370.length co26) y370 8 a0_0 t373 w _ ?side1 ?side2 A10.out).mono ?_); (case side1 => repeat (first | (with_reducible first | exact HB.out | apply zd | apply zb | apply zc | refine zh ?_ zF.out) | exact HB.out)); (case side2 => exact Kd.R_tight rfl zK.out); rintro e w27 ⟨v374, rfl, zD, hb, hkp⟩; refine ⟨_, rfl, ?_⟩; have n0_ := Aside0.mk (blk_kept (by (with_reducible repeat (first | refine zj ?_ _ | refine zl ?_ | refine zi ?_ _)); exact zA.out) hkp (fun hs_ => (fun e_ => (Kd.R_ne zK.out zA.out (by decide)) e_) hs_)); have n999_ := Aside0.mk (blk_kept (by (with_reducible repeat (first | refine zj ?_ _ | refine zl ?_ | refine zi ?_ _)); exact zB.out) hkp (fun hs_ => (fun e_ => (Kd.R_ne zK.out zB.out (by decide)) e_) hs_)); have n1_ := Aside0.mk (Kd.R_mono (ok' := fun k_ => True) zD (fun k_ hk_ => trivial)); have n2_ := Aside0.mk (hb); clear zA; clear zB; clear HB; clear zK; have zA := n0_; have zB := n999_; clear n999_; have zM := n1_; have HB := n2_; clear n0_ n1_ n2_; (try clear hb); (try clear hkp); (try clear zD); obtain ⟨g997, c997, e997, _, _, _, _⟩ := Kd.R_form zM.out (by rw [HLEN.out]; omega); subst e997) | (refine Go.Proofs.YtjoafknckmoojaaDoorH.to_arr rfl (t := 123) (e := 5) (n := 64) rfl (N := 29) rfl rfl Tryd.underlying123 (by rw [HLEN.out]; omega) ?_) | (refine Go.Proofs.YtjoafknckmoojaaDoorH.load_arr (Value.int .u8) rfl (t := 123) (e := 5) (n := 64) rfl (N := 30) rfl rfl Tryd.underlying123 (by kernel_rfl) (by omega) HLEN.out.symm (Kd.R_reads' zM.out).2.2 ?_) | (refine Go.Proofs.YtjoafknckmoojaaDoorH.store_arr rfl (t := 123) rfl rfl rfl rfl zB.out (by simp only [List.size_toArray, List.length_map, HLEN.out]; kernel_rfl) (by simp [HLEN.out]) (by apply all_oneCell_toArray; intro v_ hv_; obtain ⟨x_, _, rfl⟩ := List.mem_map.mp hv_; rfl) ?_; intro w996 hA996 hg996))
   refine bodyPost_ret (results_cell_row rfl _ _ zL 123 _ (0, 0) _ rfl hA996 Tryd.underlying123 rfl (by simp only [List.size_toArray, List.length_map, HLEN.out]; kernel_rfl)) rfl ?_
   exact ⟨rfl, pw_below_grown HB.out (some zL) HB.out.size hg996 (fun k_ hk_ => by injection hk_ with hk_; exact hk_ ▸ zN.out)⟩
  ·rw [if_neg c9] at H
   exact absurd H (by simp)
 ·rw [if_neg c8] at H
  exact absurd H (by simp)

def slices_Clone_byte_byte.f (l0 : List Int) : Option (List Int) := (some (([] : List Int) : List Int)).bind fun y376 => (if y376.length + l0.length < 140737488355328 then (some (y376 ++ l0)) else (none))
set_option maxHeartbeats 8000000 in
set_option maxRecDepth 100000 in
theorem slices_Clone_byte_byte.calls (A0 : Option Addr) (c0 : Nat) (l0 : List Int) (r : List Int) (w : World) (hr0 : Kd.C (Kd.int .u8) w A0 l0.length l0) (hc0 : l0.length ≤ c0) (h : slices_Clone_byte_byte.f l0 = some r) :
  Calls Tryd.prog 143 #[.slice A0 l0.length c0] w fun e w' => ∃ v0_ : Value, e = .returned (v0_) ∧ Kd.R (Kd.int .u8) 5 w' w.heap.size (fun _ => True) v0_ r ∧ Below w.heap.size w w' := by
 rcases A0 with _ | ad0
 ·obtain rfl : l0 = [] := by
   rcases Nat.eq_zero_or_pos l0.length with h0_ | h0_
   ·exact List.eq_nil_of_length_eq_zero h0_
   ·obtain ⟨_, h2_, _⟩ := hr0.2.2 h0_
    cases h2_
  obtain rfl : r = [] := by
   have h2_ : (some ([] : List Int)) = some r := h
   exact (Option.some.inj h2_).symm
  have heq_ := fun (W : World) => Lib.run_eql_slice_nil (P := Tryd.prog) W 22 5 none 0 c0 0 0 Tryd.underlying22
  clear h hr0 hc0
  go_enter Tryd.func143, Tryd.ntmps143
  go_wp2
  go_ret
  exact ⟨_, rfl, Kd.R_nil _ _ _ _ _, Below.refl _ _⟩
 have heq_ := fun (W : World) => Lib.run_eql_slice_nil (P := Tryd.prog) W 22 5 (some ad0) l0.length c0 0 0 Tryd.underlying22
 have HR0 := Aside0.mk hr0
 have HC0 := Aside0.mk hc0
 clear hr0 hc0
 have HB := Aside0.mk (Below.refl w.heap.size w)
 have H : ((some (([] : List Int) : List Int)).bind fun y376 => (if y376.length + l0.length < 140737488355328 then (some (y376 ++ l0)) else (none))) = some r := h
 clear h
 obtain ⟨y376, hy376⟩ : ∃ y_ : List Int, y_ = (([] : List Int)) := ⟨_, rfl⟩
 replace H : (if y376.length + l0.length < 140737488355328 then (some (y376 ++ l0)) else (none)) = some r := by first | (rw [hy376]; with_reducible exact H) | (have H2_ := (Option.bind_some _ _).symm.trans H; rw [hy376]; with_reducible exact H2_) | (have H2_ := (Option.bind_some _ _).symm.trans H; with_reducible exact H2_) | with_reducible exact H | (rw [hy376]; exact H) | exact H
 have Ny376 := Aside0.mk hy376
 clear hy376
 by_cases c2 : y376.length + l0.length < 140737488355328
 ·rw [if_pos c2] at H
  have LMc2 := Aside0.mk c2
  clear c2
  obtain ⟨y379, hy379⟩ : ∃ y_ : List Int, y_ = (y376 ++ l0) := ⟨_, rfl⟩
  replace H : (some y379) = some r := by first | (rw [hy379]; with_reducible exact H) | (have H2_ := (Option.bind_some _ _).symm.trans H; rw [hy379]; with_reducible exact H2_) | (have H2_ := (Option.bind_some _ _).symm.trans H; with_reducible exact H2_) | with_reducible exact H | (rw [hy379]; exact H) | exact H
  have Ny379 := Aside0.mk hy379
  clear hy379
  obtain rfl := Option.some.inj H
  go_enter Tryd.func143, Tryd.ntmps143
  go_wp2_with (first | ((with_reducible refine zr (N := 5) rfl ?_); refine Kd.R_lit (Kd.int .u8) _ 5 ?hg (N := 5) ?hd (xs := ([] : List Int)) (inner := []) (ok := fun _ => True) (okp := fun _ => True) ?hr ?hp (fun _ hk => hk) trivial (Below.refl _ _) (Nat.le_refl _) (by simp) ?_; (case hd => rfl); (case hg => rfl); (case hr => first | (go_simp; done) | (go_simp; rfl)); (case hp => exact (Reps.none _ _)); intro v377 w3 zA hb hg_ hnew_; clear hg_ hnew_; (first | rw [← Ny376.out] at zA | (simp only [Int.reduceToNat] at zA; rw [← Ny376.out] at zA)); have n0_ := Aside0.mk (Kd.R_lower zA (zk (by repeat (first | (with_reducible first | exact HB.out | apply zd | apply zb | apply zc) | exact HB.out)))); have n1_ := Aside0.mk (zm (by repeat (first | (with_reducible first | exact HB.out | apply zd | apply zb | apply zc) | exact HB.out)) hb); clear HB; have zB := n0_; have HB := n1_; clear n0_ n1_; clear hb zA) | ((with_reducible refine gate_builtin (b := .append) (xs := #[.tmp 5, .tmp 6]) rfl ?_); at_builtin; refine Kd.R_append_rows (Kd.int .u8) (w0 := w) w.heap.size rfl (.tmp 5) (.tmp 6) 22 5 (.int .u8 0) 1 rfl Tryd.underlying22 info5 rfl (by decide) (by omega) v377 y376 l0 _ _ _ (fun _ => True) (fun _ => False) rfl rfl ?aO ?aR (fun _ _ h => h) (fun _ h => h.elim) ?aF ?aB ?aS ?aL ?_; (case aR => repeat (first | exact (Kd.C_below HR0.out HB.out) | (with_reducible refine Kd.C_alloc ?_ _) | (with_reducible refine Kd.C_drewN ?_ _) | (with_reducible refine Kd.C_drew ?_))); (case aB => exact (by repeat (first | (with_reducible first | exact HB.out | apply zd | apply zb | apply zc) | exact HB.out))); (case aF => exact (fun _ _ => trivial)); (case aO => exact (by (with_reducible repeat (first | apply Kd.R_alloc | apply Kd.R_drewN | apply Kd.R_drew)); exact zB.out)); (case aS => exact (zk (by repeat (first | (with_reducible first | exact HB.out | apply zd | apply zb | apply zc) | exact HB.out)))); (case aL => have := LMc2.out; omega); intro v380 w5 ho hb hg hat; rw [← Ny379.out] at ho; have n0_ := Aside0.mk (hb); have n1_ := Aside0.mk (ho); clear HB; clear zB; have HB := n0_; have zC := n1_; clear n0_ n1_; clear ho hb hg hat))
  go_ret
  exact ⟨_, by first | rfl | (simp [errW_none, errW_some] <;> rfl) | (simp [*, errW_none, errW_some] <;> rfl), by (with_reducible repeat (first | apply Kd.R_alloc | apply Kd.R_drewN | apply Kd.R_drew)); exact zC.out, by repeat (first | (with_reducible first | exact HB.out | apply zd | apply zb | apply zc) | exact HB.out)⟩
 ·rw [if_neg c2] at H
  exact absurd H (by simp)

end Go.Proofs.YtjoafknckmoojaaDoor.GFnExactFormatDisk
