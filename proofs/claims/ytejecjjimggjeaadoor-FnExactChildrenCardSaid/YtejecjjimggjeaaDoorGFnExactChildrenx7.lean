/- Written by give.py, a program of this session, that runs the kit's print and lays contracts proved by hand beside it. -/
import Derived.Test.YtejecjjimggjeaaDoorGFnExactChildrenx0
import Derived.Test.YtejecjjimggjeaaDoorGFnExactChildrenx5
import Derived.Test.YtejecjjimggjeaaDoorGFnExactChildrenx6
namespace Go.Proofs.YtejecjjimggjeaaDoor.GFnExactChildren
open Go.RowKit Go.Proofs.YtejecjjimggjeaaDoorW.PrintWords Go.Proofs.YtejecjjimggjeaaDoorW.PrintLast Go.Proofs.YtejecjjimggjeaaDoorW.PrintMore
attribute [local go_sem] max2_int min2_int max_two min_two max_three min_three max_four min_four
attribute [local go_sem high] Go.Proofs.YtejecjjimggjeaaDoorH.str_leq Go.Proofs.YtejecjjimggjeaaDoorH.str_geq Go.Proofs.YtejecjjimggjeaaDoorH.str_gtr   -- for this text's walks alone
set_option linter.unusedVariables false
set_option linter.unusedSimpArgs false

def impl_ValidTree.f (k : Nat) (l0_0 : List (S53)) : Option (Bool) := if (l0_0.length : Int) ≤ 1000 then ((impl_nodesOk.f k l0_0).bind fun t204 => (some t204)) else (some false)
theorem impl_ValidTree.mono : ∀ a0 k, LeO (impl_ValidTree.f k a0) (impl_ValidTree.f (k + 1) a0) := by
 intro a0 k
 unfold impl_ValidTree.f
 repeat' first
   | (with_reducible exact impl_nodesOk.mono _ _)
   | (with_reducible exact LeO.refl _)
   | (with_reducible exact LeO.none _)
   | (with_reducible refine LeO.ite ?_ ?_)
   | (with_reducible refine LeO.bind ?_ (fun _ => ?_))
   | exact impl_nodesOk.mono _ _
   | exact LeO.none _
   | refine LeO.ite ?_ ?_
   | refine LeO.bind ?_ (fun _ => ?_)
set_option maxHeartbeats 8000000 in
set_option maxRecDepth 100000 in
theorem impl_ValidTree.calls (k : Nat) (A0_0 : Option Addr) (c0_0 : Nat) (l0_0 : List (S53)) (r : Bool) (w : World) (hr0_0 : Kd.C k53 w A0_0 l0_0.length l0_0) (hc0_0 : l0_0.length ≤ c0_0) (h : impl_ValidTree.f k l0_0 = some r) (hGMAX_ : Go.Proofs.YtejecjjimggjeaaDoorH.GFMAX w) :
  Calls Tryd.prog 44 #[.agg #[.slice A0_0 l0_0.length c0_0]] w fun e w' => e = .returned (.bool r) ∧ Below w.heap.size w w' := by
 have HGMAX_ := Aside0.mk hGMAX_
 clear hGMAX_
 have hu45 := Tryd.underlying45
 have HR0_0 := Aside0.mk hr0_0
 have HC0_0 := Aside0.mk hc0_0
 clear hr0_0 hc0_0
 have HB := Aside0.mk (Below.refl w.heap.size w)
 have H : (if (l0_0.length : Int) ≤ 1000 then ((impl_nodesOk.f k l0_0).bind fun t204 => (some t204)) else (some false)) = some r := h
 clear h
 by_cases c2 : (l0_0.length : Int) ≤ 1000
 ·rw [if_pos c2] at H
  have c2b0 : decide ((l0_0.length : Int) ≤ 1000) = true := decide_eq_true c2
  have c2b1 : decide (l0_0.length ≤ 1000) = true := decide_eq_true (by omega)
  clear c2
  replace H := Option.bind_eq_some_iff.mp H
  obtain ⟨t204, A30, H⟩ := H
  replace H : (some t204) = some r := H
  have A3 := Aside0.mk A30
  clear A30
  obtain rfl := Option.some.inj H
  go_enter Tryd.func44, Tryd.ntmps44
  go_wp2_with (first | ((with_reducible refine zu (N := 1) rfl ?_); refine zs ?hg (N := 1) ?hd (cs := #[.slice A0_0 l0_0.length c0_0]) (t := 45) ?hr ?_; (case hd => rfl); (case hg => rfl); (case hr => first | (go_simp; done) | (go_simp; rfl)); intro zx hg w4 hbox hb; have n0_ := Aside0.mk (zi (by exact bl HB.out) hb); have n1_ := Aside0.mk (hbox); have n2_ := Aside0.mk ((by rw [hg]; exact (zh (by exact bl HB.out)) : w.heap.size ≤ zx)); have n3_ := Aside0.mk ((by rw [hg]; exact (zh (by exact bl HB.out)) : w.heap.size ≤ zx)); clear HB; have HB := n0_; have zy := n1_; have GW203 := n2_; have zz := n3_; clear n0_ n1_ n2_ n3_; clear hb hbox hg; have zA : w4.cell? ⟨zx, 0, none⟩ = some (.slice A0_0 l0_0.length c0_0) := (ze zy.out 0).trans rfl; have zB := zc zy.out 0) | (go_at_call 66; (with_reducible refine (impl_nodesOk.calls k _ _ l0_0 t204 _ ?side1 ?side2 A3.out ?globMAX_).mono ?_); (case globMAX_ => exact Go.Proofs.YtejecjjimggjeaaDoorH.GFMAX.below HGMAX_.out (by repeat (first | (with_reducible first | exact HB.out | exact Below.refl _ _ | apply zg | apply zd | apply zf | refine zj ?_ (Aside0.out (by assumption))) | exact HB.out))); (case side1 => repeat (first | exact (Kd.C_below HR0_0.out HB.out) | (with_reducible refine Kd.C_alloc ?_ _) | (with_reducible refine Kd.C_drewN ?_ _) | (with_reducible refine Kd.C_drew ?_))); (case side2 => exact HC0_0.out); rintro e w6 ⟨rfl, hb⟩; have n0_ := Aside0.mk (zm (g := zx) (o := .cells #[.slice A0_0 l0_0.length c0_0] 45 (0, 0)) (BL zy.out) hb); have n1_ := Aside0.mk (zi (by exact bl HB.out) hb); clear zy; clear HB; have zy := n0_; have HB := n1_; clear n0_ n1_; (try clear hb); (try clear hb2); (try clear hk); (try clear hi)))
  go_ret
  exact ⟨by first | rfl | (simp [errW_none, errW_some] <;> rfl) | (simp [*, errW_none, errW_some] <;> rfl), by repeat (first | (with_reducible first | exact HB.out | apply zg | apply zd | apply zf | refine zj ?_ zz.out) | exact HB.out)⟩
 ·rw [if_neg c2] at H
  have c2b0 : decide ((l0_0.length : Int) ≤ 1000) = false := decide_eq_false c2
  have c2b1 : decide (l0_0.length ≤ 1000) = false := decide_eq_false (by omega)
  clear c2
  obtain rfl := Option.some.inj H
  go_enter Tryd.func44, Tryd.ntmps44
  go_wp2_with (first | ((with_reducible refine zu (N := 1) rfl ?_); refine zs ?hg (N := 1) ?hd (cs := #[.slice A0_0 l0_0.length c0_0]) (t := 45) ?hr ?_; (case hd => rfl); (case hg => rfl); (case hr => first | (go_simp; done) | (go_simp; rfl)); intro zx hg w7 hbox hb; have n0_ := Aside0.mk (zi (by exact bl HB.out) hb); have n1_ := Aside0.mk (hbox); have n2_ := Aside0.mk ((by rw [hg]; exact (zh (by exact bl HB.out)) : w.heap.size ≤ zx)); have n3_ := Aside0.mk ((by rw [hg]; exact (zh (by exact bl HB.out)) : w.heap.size ≤ zx)); clear HB; have HB := n0_; have zy := n1_; have GW203 := n2_; have zz := n3_; clear n0_ n1_ n2_ n3_; clear hb hbox hg; have zC : w7.cell? ⟨zx, 0, none⟩ = some (.slice A0_0 l0_0.length c0_0) := (ze zy.out 0).trans rfl; have zD := zc zy.out 0))
  go_ret
  exact ⟨by first | rfl | (simp [errW_none, errW_some] <;> rfl) | (simp [*, errW_none, errW_some] <;> rfl), by repeat (first | (with_reducible first | exact HB.out | apply zg | apply zd | apply zf | refine zj ?_ zz.out) | exact HB.out)⟩

def bytealg_LastIndexByteString.l0 : Nat → ByteArray → Int → Int → Option (Int)
 | 0, _, _, _ => none
 | k + 1, x0, x1, x5 => if x5 ≥ 0 then (if 0 ≤ x5 then (if x5 < (x0.size : Int) then (if (bt x0 x5) = x1 then (some x5) else (bytealg_LastIndexByteString.l0 k x0 x1 (wrap64 (x5 - 1)))) else (none)) else (none)) else (some (-1))
def bytealg_LastIndexByteString.f (k : Nat) (a0 : ByteArray) (a1 : Int) : Option (Int) := bytealg_LastIndexByteString.l0 k a0 a1 (wrap64 ((a0.size : Int) - 1))
theorem bytealg_LastIndexByteString.mono_l : ∀ k, (∀ y0 y1 y2, LeO (bytealg_LastIndexByteString.l0 k y0 y1 y2) (bytealg_LastIndexByteString.l0 (k + 1) y0 y1 y2))
 | 0 => fun _ _ _ r h => by simp [bytealg_LastIndexByteString.l0] at h
 | k + 1 => by
  have ih0 := bytealg_LastIndexByteString.mono_l k
  ·intro y0 y1 y2
   unfold bytealg_LastIndexByteString.l0
   repeat' first
   | (with_reducible exact ih0 _ _ _)
   | (with_reducible exact LeO.refl _)
   | (with_reducible exact LeO.none _)
   | (with_reducible refine LeO.ite ?_ ?_)
   | (with_reducible refine LeO.bind ?_ (fun _ => ?_))
   | exact ih0 _ _ _
   | exact LeO.none _
   | refine LeO.ite ?_ ?_
   | refine LeO.bind ?_ (fun _ => ?_)
theorem bytealg_LastIndexByteString.mono : ∀ a0 a1 k, LeO (bytealg_LastIndexByteString.f k a0 a1) (bytealg_LastIndexByteString.f (k + 1) a0 a1) := by
 intro a0 a1 k
 have ih0 := bytealg_LastIndexByteString.mono_l k
 unfold bytealg_LastIndexByteString.f
 repeat' first
   | (with_reducible exact ih0 _ _ _)
   | (with_reducible exact LeO.refl _)
   | (with_reducible exact LeO.none _)
   | (with_reducible refine LeO.ite ?_ ?_)
   | (with_reducible refine LeO.bind ?_ (fun _ => ?_))
   | exact ih0 _ _ _
   | exact LeO.none _
   | refine LeO.ite ?_ ?_
   | refine LeO.bind ?_ (fun _ => ?_)
set_option maxHeartbeats 8000000 in
set_option maxRecDepth 100000 in
theorem bytealg_LastIndexByteString.calls (k : Nat) (a0 : ByteArray) (a1 : Int) (r : Int) (w : World) (h : bytealg_LastIndexByteString.f k a0 a1 = some r) :
  Calls Tryd.prog 79 #[.string a0, .int .u8 a1] w fun e w' => e = .returned (.int .i64 r) ∧ Drawn0 w w' := by
 have H : (bytealg_LastIndexByteString.l0 k a0 a1 (wrap64 ((a0.size : Int) - 1))) = some r := h
 clear h
 have H' := Aside0.mk H
 clear H
 go_enter Tryd.func79, Tryd.ntmps79
 go_wp2
 go_loopg [5] k (fun kq v5 w' => ∃ (x5_1 : Int), v5 = .int .i64 x5_1 ∧ Aside0 (bytealg_LastIndexByteString.l0 kq a0 a1 x5_1 = some r) ∧ Aside0 (kq ≤ k) ∧ Drawn0 w w')
 case atStart => exact ⟨(wrap64 ((a0.size : Int) - 1)), (by first | rfl | (simp; done) | (simp [*]; done)), H', ⟨Nat.le_refl _⟩, by repeat (first | exact Drawn0.refl _ | apply Drawn0.step)⟩
 case round =>
  clear H'
  try clear p2
  obtain ⟨x5_1, rfl, HA, HK1, ⟨m1, rfl⟩⟩ := hrel
  cases gk with
  | zero => exact absurd HA.out (by simp [bytealg_LastIndexByteString.l0])
  | succ k1 =>
   have H := HA.out
   clear HA
   simp only [bytealg_LastIndexByteString.l0] at H
   by_cases c3 : x5_1 ≥ 0
   ·rw [if_pos c3] at H
    have c3b0 : decide (0 ≤ x5_1) = true := decide_eq_true c3
    clear c3
    by_cases c4 : 0 ≤ x5_1
    ·rw [if_pos c4] at H
     have c4b0 : decide (0 ≤ x5_1) = true := decide_eq_true c4
     clear c4
     by_cases c5 : x5_1 < (a0.size : Int)
     ·rw [if_pos c5] at H
      have c5b0 : decide (x5_1 < (a0.size : Int)) = true := decide_eq_true c5
      clear c5
      by_cases c7 : (bt a0 x5_1) = a1
      ·rw [if_pos c7] at H
       have c7b0 : ((bt a0 x5_1) == a1) = true := beq_iff_eq.mpr c7
       have c7b1 : ((bt a0 x5_1) != a1) = false := bne_eq_false_iff_eq.mpr c7
       clear c7
       obtain rfl := Option.some.inj H
       have p6 : 0 ≤ (x5_1 : Int) := of_decide_eq_true (by first | (with_reducible assumption) | assumption)
       have q6 : x5_1 < (a0.size : Int) := of_decide_eq_true (by first | (with_reducible assumption) | assumption)
       have hx6 := bt_at a0 x5_1
       replace p6 := eq_true p6
       replace q6 := eq_true q6
       go_wp2
       go_ret
       exact ⟨by first | rfl | (simp; done) | (simp [*]; done), by repeat (first | exact Drawn0.refl _ | apply Drawn0.step)⟩
      ·rw [if_neg c7] at H
       have c7b0 : ((bt a0 x5_1) == a1) = false := beq_eq_false_iff_ne.mpr c7
       have c7b1 : ((bt a0 x5_1) != a1) = true := bne_iff_ne.mpr c7
       have H' := Aside0.mk H
       clear H
       have p6 : 0 ≤ (x5_1 : Int) := of_decide_eq_true (by first | (with_reducible assumption) | assumption)
       have q6 : x5_1 < (a0.size : Int) := of_decide_eq_true (by first | (with_reducible assumption) | assumption)
       have hx6 := bt_at a0 x5_1
       replace p6 := eq_true p6
       replace q6 := eq_true q6
       go_wp2
       go_roundg k1
       case measure => have := HK1.out; omega
       case rel => exact ⟨(wrap64 (x5_1 - 1)), (by first | rfl | (simp; done) | (simp [*]; done)), H', ⟨by have := HK1.out; omega⟩, by repeat (first | exact Drawn0.refl _ | apply Drawn0.step)⟩
     ·rw [if_neg c5] at H
      exact absurd H (by simp)
    ·rw [if_neg c4] at H
     exact absurd H (by simp)
   ·rw [if_neg c3] at H
    have c3b0 : decide (0 ≤ x5_1) = false := decide_eq_false c3
    clear c3
    obtain rfl := Option.some.inj H
    go_wp2
    go_ret
    exact ⟨by first | rfl | (simp; done) | (simp [*]; done), by repeat (first | exact Drawn0.refl _ | apply Drawn0.step)⟩

def strings_LastIndexByte.f (k : Nat) (a0 : ByteArray) (a1 : Int) : Option (Int) := (bytealg_LastIndexByteString.f k a0 a1).bind fun t205 => (some t205)
theorem strings_LastIndexByte.mono : ∀ a0 a1 k, LeO (strings_LastIndexByte.f k a0 a1) (strings_LastIndexByte.f (k + 1) a0 a1) := by
 intro a0 a1 k
 unfold strings_LastIndexByte.f
 repeat' first
   | (with_reducible exact bytealg_LastIndexByteString.mono _ _ _)
   | (with_reducible exact LeO.refl _)
   | (with_reducible exact LeO.none _)
   | (with_reducible refine LeO.ite ?_ ?_)
   | (with_reducible refine LeO.bind ?_ (fun _ => ?_))
   | exact bytealg_LastIndexByteString.mono _ _ _
   | exact LeO.none _
   | refine LeO.ite ?_ ?_
   | refine LeO.bind ?_ (fun _ => ?_)
set_option maxHeartbeats 8000000 in
set_option maxRecDepth 100000 in
theorem strings_LastIndexByte.calls (k : Nat) (a0 : ByteArray) (a1 : Int) (r : Int) (w : World) (h : strings_LastIndexByte.f k a0 a1 = some r) :
  Calls Tryd.prog 71 #[.string a0, .int .u8 a1] w fun e w' => e = .returned (.int .i64 r) ∧ Drawn0 w w' := by
 have H : ((bytealg_LastIndexByteString.f k a0 a1).bind fun t205 => (some t205)) = some r := h
 clear h
 replace H := Option.bind_eq_some_iff.mp H
 obtain ⟨t205, A30, H⟩ := H
 replace H : (some t205) = some r := H
 have A3 := Aside0.mk A30
 clear A30
 obtain rfl := Option.some.inj H
 go_enter Tryd.func71, Tryd.ntmps71
 go_wp2_with (first | ((with_reducible refine zk (f := 79) rfl ?_); refine zv (some 7) rfl rfl Tryd.func79 (by kernel_rfl) rfl #[.string a0, .int .u8 a1] rfl (by (try simp only [List.map_toArray, List.map_cons, List.map_nil]); first | done | rfl) ?_; (with_reducible refine (bytealg_LastIndexByteString.calls k a0 a1 t205 _ A3.out).mono ?_); rintro e w' ⟨rfl, ⟨nd, rfl⟩⟩; refine ⟨_, rfl, ?_⟩))
 go_ret
 exact ⟨by first | rfl | (simp; done) | (simp [*]; done), by repeat (first | exact Drawn0.refl _ | apply Drawn0.step)⟩

def impl_parentOf.f (k : Nat) (a0 : ByteArray) : Option (ByteArray × Bool) := if a0.toList = ([47] : List UInt8) then (some ((⟨#[]⟩ : ByteArray), false)) else ((strings_LastIndexByte.f k a0 47).bind fun t206 => (if 0 ≤ (mx t206 1) then (if (mx t206 1) ≤ (a0.size : Int) then (some (a0.extract 0 ((mx t206 1) : Int).toNat, true)) else (none)) else (none)))
theorem impl_parentOf.mono : ∀ a0 k, LeO (impl_parentOf.f k a0) (impl_parentOf.f (k + 1) a0) := by
 intro a0 k
 unfold impl_parentOf.f
 repeat' first
   | (with_reducible exact strings_LastIndexByte.mono _ _ _)
   | (with_reducible exact LeO.refl _)
   | (with_reducible exact LeO.none _)
   | (with_reducible refine LeO.ite ?_ ?_)
   | (with_reducible refine LeO.bind ?_ (fun _ => ?_))
   | exact strings_LastIndexByte.mono _ _ _
   | exact LeO.none _
   | refine LeO.ite ?_ ?_
   | refine LeO.bind ?_ (fun _ => ?_)
set_option maxHeartbeats 8000000 in
set_option maxRecDepth 100000 in
theorem impl_parentOf.calls (k : Nat) (a0 : ByteArray) (r1 : ByteArray) (r2 : Bool) (w : World) (h : impl_parentOf.f k a0 = some (r1, r2)) :
  Calls Tryd.prog 70 #[.string a0] w fun e w' => e = .returned (.tuple #[.string r1, .bool r2]) ∧ Below w.heap.size w w' := by
 have HB := Aside0.mk (Below.refl w.heap.size w)
 have H : (if a0.toList = ([47] : List UInt8) then (some ((⟨#[]⟩ : ByteArray), false)) else ((strings_LastIndexByte.f k a0 47).bind fun t206 => (if 0 ≤ (mx t206 1) then (if (mx t206 1) ≤ (a0.size : Int) then (some (a0.extract 0 ((mx t206 1) : Int).toNat, true)) else (none)) else (none)))) = some (r1, r2) := h
 clear h
 by_cases c2 : a0.toList = ([47] : List UInt8)
 ·rw [if_pos c2] at H
  have c2b0 : (a0.toList == ([47] : List UInt8)) = true := beq_iff_eq.mpr c2
  have c2b1 : (a0.toList != ([47] : List UInt8)) = false := bne_eq_false_iff_eq.mpr c2
  clear c2
  simp only [Option.some.injEq, Prod.mk.injEq] at H
  obtain ⟨rfl, rfl⟩ := H
  go_enter Tryd.func70, Tryd.ntmps70
  go_wp2
  go_ret2
  exact ⟨by first | rfl | (simp [errW_none, errW_some] <;> rfl) | (simp [*, errW_none, errW_some] <;> rfl), by repeat (first | (with_reducible first | exact HB.out | apply zg | apply zd | apply zf) | exact HB.out)⟩
 ·rw [if_neg c2] at H
  have c2b0 : (a0.toList == ([47] : List UInt8)) = false := beq_eq_false_iff_ne.mpr c2
  have c2b1 : (a0.toList != ([47] : List UInt8)) = true := bne_iff_ne.mpr c2
  replace H := Option.bind_eq_some_iff.mp H
  obtain ⟨t206, A30, H⟩ := H
  replace H : (if 0 ≤ (mx t206 1) then (if (mx t206 1) ≤ (a0.size : Int) then (some (a0.extract 0 ((mx t206 1) : Int).toNat, true)) else (none)) else (none)) = some (r1, r2) := H
  have A3 := Aside0.mk A30
  clear A30
  obtain ⟨ji4, hji4⟩ : ∃ j_ : Int, (mx t206 1) = j_ := ⟨_, rfl⟩
  replace H : (if 0 ≤ (ji4) then (if (ji4) ≤ (a0.size : Int) then (some (a0.extract 0 ((ji4) : Int).toNat, true)) else (none)) else (none)) = some (r1, r2) := by first | (rw [hji4] at H; exact H) | (simp only [hji4] at H ⊢; exact H)
  (try rw [hji4] at A3)
  (try (have hji4l : 1 ≤ ji4 := by (rw [← hji4]; unfold mx; (repeat' split) <;> omega)))
  (try (have hji4m : 0 ≤ ji4 := by omega))
  have hji4_ : (if t206 < 1 then 1 else t206) = ji4 := hji4
  by_cases c5 : 0 ≤ (ji4)
  ·rw [if_pos c5] at H
   have c5b0 := eq_true c5
   have c5b1 : decide (0 ≤ (ji4)) = true := decide_eq_true c5
   clear c5
   by_cases c6 : (ji4) ≤ (a0.size : Int)
   ·rw [if_pos c6] at H
    have c6b0 := eq_true c6
    have c6b1 : decide ((ji4) ≤ (a0.size : Int)) = true := decide_eq_true c6
    clear c6
    simp only [Option.some.injEq, Prod.mk.injEq] at H
    obtain ⟨rfl, rfl⟩ := H
    go_enter Tryd.func70, Tryd.ntmps70
    go_wp2_with (first | ((with_reducible refine zk (f := 71) rfl ?_); refine zv (some 8) rfl rfl Tryd.func71 (by kernel_rfl) rfl #[.string a0, .int .u8 47] rfl (by (try simp only [List.map_toArray, List.map_cons, List.map_nil]); first | done | rfl) ?_; (with_reducible refine (strings_LastIndexByte.calls k a0 47 t206 _ A3.out).mono ?_); rintro e w' ⟨rfl, ⟨nd, rfl⟩⟩; refine ⟨_, rfl, ?_⟩))
    go_ret2
    exact ⟨by first | rfl | (simp [errW_none, errW_some] <;> rfl) | (simp only [← hji4]; first | rfl | (simp [errW_none, errW_some] <;> rfl)) | (simp [*, errW_none, errW_some] <;> rfl), by repeat (first | (with_reducible first | exact HB.out | apply zg | apply zd | apply zf) | exact HB.out)⟩
   ·rw [if_neg c6] at H
    exact absurd H (by simp)
  ·rw [if_neg c5] at H
   exact absurd H (by simp)

def impl_childrenOf.l0 : Nat → ByteArray → List ByteArray → List (S53) → Int → Int → Option (List ByteArray)
 | 0, _, _, _, _, _ => none
 | k + 1, x1, x5, x10, x11, x12 => if x12 < x11 then (if 0 ≤ x12 then (if x12 < (x10.length : Int) then ((impl_parentOf.f k ((rd_T53 x10 x12).f0)).bind fun bt209 => (if bt209.2 = true then (if bt209.1.toList = x1.toList then ((strings_LastIndexByte.f k ((rd_T53 x10 x12).f0) 47).bind fun t211 => (if 0 ≤ (wrap64 (t211 + 1)) then (if (wrap64 (t211 + 1)) ≤ (((rd_T53 x10 x12).f0).size : Int) then (if x5.length < 8796093022208 then (impl_childrenOf.l0 k x1 (x5 ++ [((rd_T53 x10 x12).f0).extract ((wrap64 (t211 + 1)) : Int).toNat ((rd_T53 x10 x12).f0).size]) x10 x11 (wrap64 (x12 + 1))) else (none)) else (none)) else (none))) else (impl_childrenOf.l0 k x1 x5 x10 x11 (wrap64 (x12 + 1)))) else (impl_childrenOf.l0 k x1 x5 x10 x11 (wrap64 (x12 + 1))))) else (none)) else (none)) else (some x5)
def impl_childrenOf.f (k : Nat) (l0 : List (S53)) (a1 : ByteArray) : Option (List ByteArray) := impl_childrenOf.l0 k a1 ([] : List ByteArray) l0 (l0.length : Int) 0
theorem impl_childrenOf.mono_l : ∀ k, (∀ y0 y1 y2 y3 y4, LeO (impl_childrenOf.l0 k y0 y1 y2 y3 y4) (impl_childrenOf.l0 (k + 1) y0 y1 y2 y3 y4))
 | 0 => fun _ _ _ _ _ r h => by simp [impl_childrenOf.l0] at h
 | k + 1 => by
  have ih0 := impl_childrenOf.mono_l k
  ·intro y0 y1 y2 y3 y4
   unfold impl_childrenOf.l0
   repeat' first
   | (with_reducible exact ih0 _ _ _ _ _)
   | (with_reducible exact impl_parentOf.mono _ _)
   | (with_reducible exact strings_LastIndexByte.mono _ _ _)
   | (with_reducible exact LeO.refl _)
   | (with_reducible exact LeO.none _)
   | (with_reducible refine LeO.ite ?_ ?_)
   | (with_reducible refine LeO.bind ?_ (fun _ => ?_))
   | exact ih0 _ _ _ _ _
   | exact impl_parentOf.mono _ _
   | exact strings_LastIndexByte.mono _ _ _
   | exact LeO.none _
   | refine LeO.ite ?_ ?_
   | refine LeO.bind ?_ (fun _ => ?_)
theorem impl_childrenOf.mono : ∀ a0 a1 k, LeO (impl_childrenOf.f k a0 a1) (impl_childrenOf.f (k + 1) a0 a1) := by
 intro a0 a1 k
 have ih0 := impl_childrenOf.mono_l k
 unfold impl_childrenOf.f
 repeat' first
   | (with_reducible exact ih0 _ _ _ _ _)
   | (with_reducible exact impl_parentOf.mono _ _)
   | (with_reducible exact strings_LastIndexByte.mono _ _ _)
   | (with_reducible exact LeO.refl _)
   | (with_reducible exact LeO.none _)
   | (with_reducible refine LeO.ite ?_ ?_)
   | (with_reducible refine LeO.bind ?_ (fun _ => ?_))
   | exact ih0 _ _ _ _ _
   | exact impl_parentOf.mono _ _
   | exact strings_LastIndexByte.mono _ _ _
   | exact LeO.none _
   | refine LeO.ite ?_ ?_
   | refine LeO.bind ?_ (fun _ => ?_)
def impl_childrenOf.T7 : Bool × List (List Nat × List Nat) := (true, [([], []), ([], []), ([1], [1]), ([], []), ([3], [3]), ([4], [4]), ([5], [5]), ([2, 6], [2, 6]), ([7], [7]), ([0, 8, 5], [0, 8]), ([9, 9, 0, 1, 2, 3, 4, 5, 6, 7, 8, 9], [0, 9])])
def impl_childrenOf.B7 : List Nat := [0, 0, 2, 0, 8, 24, 56, 126, 254, 511, 1023]
theorem impl_childrenOf.tab7 : rtab .any (opsOf Tryd.f46 7) = impl_childrenOf.T7 := by kernel_rfl
theorem impl_childrenOf.bits7 : waitsOk impl_childrenOf.T7.2 impl_childrenOf.B7 = true := by kernel_rfl
set_option maxHeartbeats 8000000 in
set_option maxRecDepth 100000 in
theorem impl_childrenOf.calls (k : Nat) (A0 : Option Addr) (c0 : Nat) (l0 : List (S53)) (a1 : ByteArray) (r : List ByteArray) (w : World) (hr0 : Kd.C k53 w A0 l0.length l0) (hc0 : l0.length ≤ c0) (h : impl_childrenOf.f k l0 a1 = some r) :
  Calls Tryd.prog 46 #[.slice A0 l0.length c0, .string a1] w fun e w' => ∃ v0_ : Value, e = .returned (v0_) ∧ Kd.R Kd.string 9 w' w.heap.size (fun _ => True) v0_ r ∧ Below w.heap.size w w' := by
 have hu53 := Tryd.underlying53
 have HR0 := Aside0.mk hr0
 have HC0 := Aside0.mk hc0
 clear hr0 hc0
 have HB := Aside0.mk (Below.refl w.heap.size w)
 have H : (impl_childrenOf.l0 k a1 ([] : List ByteArray) l0 (l0.length : Int) 0) = some r := h
 clear h
 have H' := Aside0.mk H
 clear H
 go_enter Tryd.func46, Tryd.ntmps46
 go_wp2
 go_loopg [5, 12] k (fun kq v5 v12 w' => ∃ (x5_1 : List ByteArray) (x12_1 : Int), v12 = .int .i64 x12_1 ∧ Aside0 (impl_childrenOf.l0 kq a1 x5_1 l0 (l0.length : Int) x12_1 = some r) ∧ Aside0 (kq ≤ k) ∧ Aside0 (Kd.R Kd.string 9 w' w.heap.size (fun _ => True) v5 x5_1) ∧ Aside0 (Below w.heap.size w w'))
 case atStart => exact ⟨(([] : List ByteArray)), (0), (by first | rfl | (simp; done) | (simp [*]; done)), H', ⟨Nat.le_refl _⟩, ⟨by first | exact Kd.R_nil _ _ _ _ _ | exact Kd.N_nil _ _ _ _ _ | exact Kd.V_nil _ _ _ _ _ | exact Kd.Q_nil _ _ _ _ _ | exact Kd.S_nil _ _ _ _ _⟩, ⟨by repeat (first | (with_reducible first | exact HB.out | apply zg | apply zd | apply zf) | exact HB.out)⟩⟩
 case round =>
  clear H'
  try clear p2
  obtain ⟨x5_1, x12_1, rfl, HA, HK1, zz, HB⟩ := hrel
  cases gk with
  | zero => exact absurd HA.out (by simp [impl_childrenOf.l0])
  | succ k1 =>
   have H := HA.out
   clear HA
   simp only [impl_childrenOf.l0] at H
   by_cases c3 : x12_1 < (l0.length : Int)
   ·rw [if_pos c3] at H
    have c3b0 : decide (x12_1 < (l0.length : Int)) = true := decide_eq_true c3
    clear c3
    by_cases c4 : 0 ≤ x12_1
    ·rw [if_pos c4] at H
     have c4b0 : decide (0 ≤ x12_1) = true := decide_eq_true c4
     clear c4
     by_cases c5 : x12_1 < (l0.length : Int)
     ·rw [if_pos c5] at H
      have c5b0 : decide (x12_1 < (l0.length : Int)) = true := decide_eq_true c5
      clear c5
      replace H := Option.bind_eq_some_iff.mp H
      obtain ⟨⟨t209, t210⟩, A60, H⟩ := H
      replace H : (if t210 = true then (if t209.toList = a1.toList then ((strings_LastIndexByte.f k1 ((rd_T53 l0 x12_1).f0) 47).bind fun t211 => (if 0 ≤ (wrap64 (t211 + 1)) then (if (wrap64 (t211 + 1)) ≤ (((rd_T53 l0 x12_1).f0).size : Int) then (if x5_1.length < 8796093022208 then (impl_childrenOf.l0 k1 a1 (x5_1 ++ [((rd_T53 l0 x12_1).f0).extract ((wrap64 (t211 + 1)) : Int).toNat ((rd_T53 l0 x12_1).f0).size]) l0 (l0.length : Int) (wrap64 (x12_1 + 1))) else (none)) else (none)) else (none))) else (impl_childrenOf.l0 k1 a1 x5_1 l0 (l0.length : Int) (wrap64 (x12_1 + 1)))) else (impl_childrenOf.l0 k1 a1 x5_1 l0 (l0.length : Int) (wrap64 (x12_1 + 1)))) = some r := H
      have A6 := Aside0.mk A60
      clear A60
      by_cases c7 : t210 = true
      ·subst c7
       have H1 : (if t209.toList = a1.toList then ((strings_LastIndexByte.f k1 ((rd_T53 l0 x12_1).f0) 47).bind fun t211 => (if 0 ≤ (wrap64 (t211 + 1)) then (if (wrap64 (t211 + 1)) ≤ (((rd_T53 l0 x12_1).f0).size : Int) then (if x5_1.length < 8796093022208 then (impl_childrenOf.l0 k1 a1 (x5_1 ++ [((rd_T53 l0 x12_1).f0).extract ((wrap64 (t211 + 1)) : Int).toNat ((rd_T53 l0 x12_1).f0).size]) l0 (l0.length : Int) (wrap64 (x12_1 + 1))) else (none)) else (none)) else (none))) else (impl_childrenOf.l0 k1 a1 x5_1 l0 (l0.length : Int) (wrap64 (x12_1 + 1)))) = some r := by rw [if_pos rfl] at H; exact H
       clear H
       have H := H1
       clear H1
       by_cases c8 : t209.toList = a1.toList
       ·rw [if_pos c8] at H
        have c8b0 : (t209.toList == a1.toList) = true := beq_iff_eq.mpr c8
        have c8b1 : (t209.toList != a1.toList) = false := bne_eq_false_iff_eq.mpr c8
        clear c8
        replace H := Option.bind_eq_some_iff.mp H
        obtain ⟨t211, A90, H⟩ := H
        replace H : (if 0 ≤ (wrap64 (t211 + 1)) then (if (wrap64 (t211 + 1)) ≤ (((rd_T53 l0 x12_1).f0).size : Int) then (if x5_1.length < 8796093022208 then (impl_childrenOf.l0 k1 a1 (x5_1 ++ [((rd_T53 l0 x12_1).f0).extract ((wrap64 (t211 + 1)) : Int).toNat ((rd_T53 l0 x12_1).f0).size]) l0 (l0.length : Int) (wrap64 (x12_1 + 1))) else (none)) else (none)) else (none)) = some r := H
        have A9 := Aside0.mk A90
        clear A90
        obtain ⟨ji10, hji10⟩ : ∃ j_ : Int, (wrap64 (t211 + 1)) = j_ := ⟨_, rfl⟩
        replace H : (if 0 ≤ (ji10) then (if (ji10) ≤ (((rd_T53 l0 x12_1).f0).size : Int) then (if x5_1.length < 8796093022208 then (impl_childrenOf.l0 k1 a1 (x5_1 ++ [((rd_T53 l0 x12_1).f0).extract ((ji10) : Int).toNat ((rd_T53 l0 x12_1).f0).size]) l0 (l0.length : Int) (wrap64 (x12_1 + 1))) else (none)) else (none)) else (none)) = some r := by first | (rw [hji10] at H; exact H) | (simp only [hji10] at H ⊢; exact H)
        (try rw [hji10] at A6)
        (try rw [hji10] at A9)
        have hji10w : (IntKind.i64.wrap (t211 + 1)) = ji10 := (zq _).trans hji10
        by_cases c11 : 0 ≤ (ji10)
        ·rw [if_pos c11] at H
         have c11b0 := eq_true c11
         have c11b1 : decide (0 ≤ (ji10)) = true := decide_eq_true c11
         clear c11
         by_cases c12 : (ji10) ≤ (((rd_T53 l0 x12_1).f0).size : Int)
         ·rw [if_pos c12] at H
          have c12b0 := eq_true c12
          have c12b1 : decide ((ji10) ≤ (((rd_T53 l0 x12_1).f0).size : Int)) = true := decide_eq_true c12
          clear c12
          by_cases c13 : x5_1.length < 8796093022208
          ·rw [if_pos c13] at H
           have LMc13 := Aside0.mk c13
           clear c13
           obtain ⟨y212, hy212⟩ : ∃ y_ : List ByteArray, y_ = (x5_1 ++ [((rd_T53 l0 x12_1).f0).extract ((ji10) : Int).toNat ((rd_T53 l0 x12_1).f0).size]) := ⟨_, rfl⟩
           replace H : (impl_childrenOf.l0 k1 a1 y212 l0 (l0.length : Int) (wrap64 (x12_1 + 1))) = some r := by first | (rw [hy212]; with_reducible exact H) | (have H2_ := (Option.bind_some _ _).symm.trans H; rw [hy212]; with_reducible exact H2_) | (have H2_ := (Option.bind_some _ _).symm.trans H; with_reducible exact H2_) | with_reducible exact H | (rw [hy212]; exact H) | exact H
           have Ny212 := Aside0.mk hy212
           clear hy212
           have H' := Aside0.mk H
           clear H
           have p207 : 0 ≤ (x12_1 : Int) := of_decide_eq_true (by first | (with_reducible assumption) | assumption)
           have q207 : x12_1 < (l0.length : Int) := of_decide_eq_true (by first | (with_reducible assumption) | assumption)
           obtain ⟨ad207, e207, hx207_0, hx207_1, hx207_2, hx207_3, hx207_4, hx207_5, hx207_6⟩ := at_T53 HR0.out x12_1 p207 q207
           cases e207
           replace hx207_0 := zb HB.out hx207_0
           replace hx207_1 := zb HB.out hx207_1
           replace hx207_2 := zb HB.out hx207_2
           replace hx207_3 := zb HB.out hx207_3
           replace hx207_4 := zb HB.out hx207_4
           replace hx207_5 := zb HB.out hx207_5
           replace hx207_6 := zb HB.out hx207_6
           replace p207 := eq_true p207
           replace q207 := eq_true q207
           try go_wp2_with (first | ((with_reducible refine zu (N := 7) rfl ?_); refine zs ?hg (N := 7) ?hd (cs := #[.string (⟨#[]⟩ : ByteArray), .string (⟨#[]⟩ : ByteArray), .int .i64 0, .int .i64 0, .int .i64 0, .int .i64 0, .int .i64 0]) (t := 53) ?hr ?_; (case hd => rfl); (case hg => rfl); (case hr => first | (go_simp; done) | (go_simp; rfl)); intro zy hg w14 hbox hb; have n0_ := Aside0.mk (Kd.R_below (RL zz.out) hb); have n1_ := Aside0.mk (zi (by exact bl HB.out) hb); have n2_ := Aside0.mk (hbox); have n3_ := Aside0.mk ((by rw [hg]; exact (zh (by exact bl HB.out)) : w.heap.size ≤ zy)); have n4_ := Aside0.mk ((by rw [hg]; exact (zh (by exact bl HB.out)) : w.heap.size ≤ zy)); clear zz; clear HB; have zz := n0_; have HB := n1_; have zx := n2_; have GW208 := n3_; have zA := n4_; clear n0_ n1_ n2_ n3_ n4_; clear hb hbox hg; have zC : w14.cell? ⟨zy, 0, none⟩ = some (.string (⟨#[]⟩ : ByteArray)) := (ze zx.out 0).trans rfl; have zD : w14.cell? ⟨zy, 1, none⟩ = some (.string (⟨#[]⟩ : ByteArray)) := (ze zx.out 1).trans rfl; have zE : w14.cell? ⟨zy, 2, none⟩ = some (.int .i64 0) := (ze zx.out 2).trans rfl; have zF : w14.cell? ⟨zy, 3, none⟩ = some (.int .i64 0) := (ze zx.out 3).trans rfl; have zG : w14.cell? ⟨zy, 4, none⟩ = some (.int .i64 0) := (ze zx.out 4).trans rfl; have zH : w14.cell? ⟨zy, 5, none⟩ = some (.int .i64 0) := (ze zx.out 5).trans rfl; have zI : w14.cell? ⟨zy, 6, none⟩ = some (.int .i64 0) := (ze zx.out 6).trans rfl; have zJ := zc zx.out 0; have zK := zc zx.out 1; have zL := zc zx.out 2; have zM := zc zx.out 3; have zN := zc zx.out 4; have zO := zc zx.out 5; have zP := zc zx.out 6) | ((with_reducible refine zk (f := 70) rfl ?_); refine zv (some 19) rfl rfl Tryd.func70 (by kernel_rfl) rfl #[.string ((rd_T53 l0 x12_1).f0)] rfl (by (try simp only [List.map_toArray, List.map_cons, List.map_nil]); first | done | rfl) ?_; (with_reducible refine (impl_parentOf.calls k1 ((rd_T53 l0 x12_1).f0) t209 true _ A6.out).mono ?_); rintro e w16 ⟨rfl, hb⟩; refine ⟨_, rfl, ?_⟩; have n0_ := Aside0.mk (Kd.R_below (RL ((Kd.R_mono (Kd.R_far (p := ⟨zy, 6, none⟩) (Kd.R_far (p := ⟨zy, 5, none⟩) (Kd.R_far (p := ⟨zy, 4, none⟩) (Kd.R_far (p := ⟨zy, 3, none⟩) (Kd.R_far (p := ⟨zy, 2, none⟩) (Kd.R_far (p := ⟨zy, 1, none⟩) (Kd.R_far (p := ⟨zy, 0, none⟩) (Kd.R_types zz.out zx.out (by decide)) (fun _ hk => hk.2) (.string ((rd_T53 l0 x12_1).f0))) (fun _ hk => hk.2) (.string ((rd_T53 l0 x12_1).f1))) (fun _ hk => hk.2) (.int .i64 ((rd_T53 l0 x12_1).f2))) (fun _ hk => hk.2) (.int .i64 ((rd_T53 l0 x12_1).f3))) (fun _ hk => hk.2) (.int .i64 ((rd_T53 l0 x12_1).f4))) (fun _ hk => hk.2) (.int .i64 ((rd_T53 l0 x12_1).f5))) (fun _ hk => hk.2) (.int .i64 ((rd_T53 l0 x12_1).f6))) (fun _ h_ => h_.1)))) hb); have n1_ := Aside0.mk (zm (g := zy) (o := .cells #[.string ((rd_T53 l0 x12_1).f0), .string ((rd_T53 l0 x12_1).f1), .int .i64 ((rd_T53 l0 x12_1).f2), .int .i64 ((rd_T53 l0 x12_1).f3), .int .i64 ((rd_T53 l0 x12_1).f4), .int .i64 ((rd_T53 l0 x12_1).f5), .int .i64 ((rd_T53 l0 x12_1).f6)] 53 (0, 0)) (by (with_reducible repeat (first | refine zn ?_ _ | refine zo ?_ | refine zl ?_ _)); refine zw (cs := #[.string ((rd_T53 l0 x12_1).f0), .string ((rd_T53 l0 x12_1).f1), .int .i64 ((rd_T53 l0 x12_1).f2), .int .i64 ((rd_T53 l0 x12_1).f3), .int .i64 ((rd_T53 l0 x12_1).f4), .int .i64 ((rd_T53 l0 x12_1).f5), .int .i64 0]) ?_ 6 _ rfl; (with_reducible repeat (first | refine zn ?_ _ | refine zo ?_ | refine zl ?_ _)); refine zw (cs := #[.string ((rd_T53 l0 x12_1).f0), .string ((rd_T53 l0 x12_1).f1), .int .i64 ((rd_T53 l0 x12_1).f2), .int .i64 ((rd_T53 l0 x12_1).f3), .int .i64 ((rd_T53 l0 x12_1).f4), .int .i64 0, .int .i64 0]) ?_ 5 _ rfl; (with_reducible repeat (first | refine zn ?_ _ | refine zo ?_ | refine zl ?_ _)); refine zw (cs := #[.string ((rd_T53 l0 x12_1).f0), .string ((rd_T53 l0 x12_1).f1), .int .i64 ((rd_T53 l0 x12_1).f2), .int .i64 ((rd_T53 l0 x12_1).f3), .int .i64 0, .int .i64 0, .int .i64 0]) ?_ 4 _ rfl; (with_reducible repeat (first | refine zn ?_ _ | refine zo ?_ | refine zl ?_ _)); refine zw (cs := #[.string ((rd_T53 l0 x12_1).f0), .string ((rd_T53 l0 x12_1).f1), .int .i64 ((rd_T53 l0 x12_1).f2), .int .i64 0, .int .i64 0, .int .i64 0, .int .i64 0]) ?_ 3 _ rfl; (with_reducible repeat (first | refine zn ?_ _ | refine zo ?_ | refine zl ?_ _)); refine zw (cs := #[.string ((rd_T53 l0 x12_1).f0), .string ((rd_T53 l0 x12_1).f1), .int .i64 0, .int .i64 0, .int .i64 0, .int .i64 0, .int .i64 0]) ?_ 2 _ rfl; (with_reducible repeat (first | refine zn ?_ _ | refine zo ?_ | refine zl ?_ _)); refine zw (cs := #[.string ((rd_T53 l0 x12_1).f0), .string (⟨#[]⟩ : ByteArray), .int .i64 0, .int .i64 0, .int .i64 0, .int .i64 0, .int .i64 0]) ?_ 1 _ rfl; (with_reducible repeat (first | refine zn ?_ _ | refine zo ?_ | refine zl ?_ _)); refine zw (cs := #[.string (⟨#[]⟩ : ByteArray), .string (⟨#[]⟩ : ByteArray), .int .i64 0, .int .i64 0, .int .i64 0, .int .i64 0, .int .i64 0]) ?_ 0 _ rfl; (with_reducible repeat (first | refine zn ?_ _ | refine zo ?_ | refine zl ?_ _)); exact zx.out) hb); have n2_ := Aside0.mk (zi (by repeat (first | (with_reducible first | exact HB.out | apply zg | apply zd | apply zf | refine zj ?_ zA.out) | exact HB.out)) hb); clear zz; clear zx; clear HB; have zz := n0_; have zx := n1_; have HB := n2_; clear n0_ n1_ n2_; (try clear hb); (try clear hb2); (try clear hk); (try clear hi)))
           have n0_ := Aside0.mk (Kd.R_drew zz.out)
           have n1_ := Aside0.mk (zo zx.out)
           have n2_ := Aside0.mk (zf HB.out)
           clear zz
           clear zx
           clear HB
           have zz := n0_
           have zx := n1_
           have HB := n2_
           clear n0_ n1_ n2_
           refine start_ (n := 11) (S := fun w' => w'.cell? ⟨zy, 0, none⟩ = some (.string ((rd_T53 l0 x12_1).f0)) ∧ w'.cell? ⟨zy, 1, none⟩ = some (.string ((rd_T53 l0 x12_1).f1)) ∧ w'.cell? ⟨zy, 2, none⟩ = some (.int .i64 ((rd_T53 l0 x12_1).f2)) ∧ w'.cell? ⟨zy, 3, none⟩ = some (.int .i64 ((rd_T53 l0 x12_1).f3)) ∧ w'.cell? ⟨zy, 4, none⟩ = some (.int .i64 ((rd_T53 l0 x12_1).f4)) ∧ w'.cell? ⟨zy, 5, none⟩ = some (.int .i64 ((rd_T53 l0 x12_1).f5)) ∧ w'.cell? ⟨zy, 6, none⟩ = some (.int .i64 ((rd_T53 l0 x12_1).f6))) (ds := []) #[false, false, false, false, false, false, false, false, false, false, false] (by kernel_rfl) rfl rfl ⟨(ze zx.out 0).trans rfl, (ze zx.out 1).trans rfl, (ze zx.out 2).trans rfl, (ze zx.out 3).trans rfl, (ze zx.out 4).trans rfl, (ze zx.out 5).trans rfl, (ze zx.out 6).trans rfl⟩ (fun hHeld => ?_); refine with_tabW impl_childrenOf.tab7 impl_childrenOf.bits7 (fun HT_ HW_ => ?_)
           generalize w16.drew = w17 at zz zx HB hHeld ⊢
           refine zt (i := 0) (N := some 28) (v := ?_) (a' := ?_) #[true, false, false, false, false, false, false, false, false, false, false] rfl rfl (zp HT_.out (by kernel_rfl)) (fun _ _ _ h => h) (Or.inl ⟨by rfl, ?_⟩) ?_ ?_
           rotate_left
           ·intro w'
            go_simp
            with_reducible rfl
           rotate_left
           ·simp only [Act.put, List.setIfInBounds_toArray, List.set_cons_zero, List.set_cons_succ, zq, zr]
            rfl
           refine zt (i := 1) (N := some 29) (v := ?_) (a' := ?_) #[true, true, false, false, false, false, false, false, false, false, false] rfl rfl (zp HT_.out (by kernel_rfl)) (fun _ _ _ h => h) (Or.inl ⟨by rfl, ?_⟩) ?_ ?_
           rotate_left
           ·intro w'
            go_simp
            with_reducible rfl
           rotate_left
           ·simp only [Act.put, List.setIfInBounds_toArray, List.set_cons_zero, List.set_cons_succ, zq, zr]
            rfl
           refine zt (i := 3) (N := some 31) (v := ?_) (a' := ?_) #[true, true, false, true, false, false, false, false, false, false, false] rfl rfl (zp HT_.out (by kernel_rfl)) (fun _ _ _ h => h) (Or.inl ⟨by rfl, ?_⟩) ?_ ?_
           rotate_left
           ·intro w'
            go_simp
            with_reducible rfl
           rotate_left
           ·simp only [Act.put, List.setIfInBounds_toArray, List.set_cons_zero, List.set_cons_succ, zq, zr]
            rfl
           refine take_ (i := 2) (N := some 30) (v := ?_) (a' := ?_) #[true, true, true, true, false, false, false, false, false, false, false] rfl rfl (take_ofW HT_.out HW_.out (by kernel_rfl)) (fun _ _ _ h => h) (Or.inl ⟨by rfl, ?_⟩) hHeld ?_ ?_
           rotate_left
           ·rintro w' ⟨s0, s1, s2, s3, s4, s5, s6⟩
            go_simp
            with_reducible rfl
           rotate_left
           ·simp only [Act.put, List.setIfInBounds_toArray, List.set_cons_zero, List.set_cons_succ, zq, zr]
            rfl
           refine take_ (i := 4) (N := some 32) (v := ?_) (a' := ?_) #[true, true, true, true, true, false, false, false, false, false, false] rfl rfl (take_ofW HT_.out HW_.out (by kernel_rfl)) (fun _ _ _ h => h) (Or.inl ⟨by rfl, ?_⟩) hHeld ?_ ?_
           rotate_left
           ·rintro w' ⟨s0, s1, s2, s3, s4, s5, s6⟩
            go_simp
            with_reducible rfl
           rotate_left
           ·simp only [Act.put, List.setIfInBounds_toArray, List.set_cons_zero, List.set_cons_succ, zq, zr]
            rfl
           refine one_ (i := 5) (N := some 33) #[true, true, true, true, true, true, false, false, false, false, false] rfl rfl (one_of HT_.out (by kernel_rfl)) (by decide) (fun K hK => ?_)
           refine goes_ Tryd.func71 (by kernel_rfl) rfl #[.string ((rd_T53 l0 x12_1).f0), .int .u8 47] (by rfl) rfl rfl (by (try simp only [List.map_toArray, List.map_cons, List.map_nil]); first | done | rfl) ?_
           with_reducible refine (strings_LastIndexByte.calls k1 ((rd_T53 l0 x12_1).f0) 47 t211 _ A9.out).mono ?_
           rintro e w' ⟨rfl, ⟨nd, rfl⟩⟩
           refine ⟨_, rfl, ?_⟩
           refine hK.out _ _ ⟨(ze zx.out 0).trans rfl, (ze zx.out 1).trans rfl, (ze zx.out 2).trans rfl, (ze zx.out 3).trans rfl, (ze zx.out 4).trans rfl, (ze zx.out 5).trans rfl, (ze zx.out 6).trans rfl⟩ (fun hHeld => ?_)
           clear hK K
           refine norm_ (a' := ?_) ?_ ?_
           rotate_left
           ·show Act.put _ (some 33) _ = _
            simp only [Act.put, List.setIfInBounds_toArray, List.set_cons_zero, List.set_cons_succ, zq, zr]
            rfl
           refine zt (i := 6) (N := some 34) (v := ?_) (a' := ?_) #[true, true, true, true, true, true, true, false, false, false, false] rfl rfl (zp HT_.out (by kernel_rfl)) (fun _ _ _ h => h) (Or.inl ⟨by rfl, ?_⟩) ?_ ?_
           rotate_left
           ·intro w'
            go_simp
            with_reducible rfl
           rotate_left
           ·simp only [Act.put, List.setIfInBounds_toArray, List.set_cons_zero, List.set_cons_succ, zq, zr]
            rfl
           refine zt (i := 7) (N := some 35) (v := ?_) (a' := ?_) #[true, true, true, true, true, true, true, true, false, false, false] rfl rfl (zp HT_.out (by kernel_rfl)) (fun _ _ _ h => h) (Or.inl ⟨by rfl, ?_⟩) ?_ ?_
           rotate_left
           ·intro w'
            go_simp
            with_reducible rfl
           rotate_left
           ·simp only [Act.put, List.setIfInBounds_toArray, List.set_cons_zero, List.set_cons_succ, zq, zr]
            rfl
           refine one_ (i := 8) (N := some 36) #[true, true, true, true, true, true, true, true, true, false, false] rfl rfl (one_of HT_.out (by kernel_rfl)) (by decide) (fun K hK => ?_)
           refine value_ (w1 := ?_) (v := ?_) (by rfl) rfl ?_ ?_
           rotate_left 2
           ·go_simp
            constructor
            ·rfl
            ·rfl
           refine hK.out _ _ ⟨(ze (zl zx.out _) 0).trans rfl, (ze (zl zx.out _) 1).trans rfl, (ze (zl zx.out _) 2).trans rfl, (ze (zl zx.out _) 3).trans rfl, (ze (zl zx.out _) 4).trans rfl, (ze (zl zx.out _) 5).trans rfl, (ze (zl zx.out _) 6).trans rfl⟩ (fun hHeld => ?_)
           clear hK K
           refine norm_ (a' := ?_) ?_ ?_
           rotate_left
           ·show Act.put _ (some 36) _ = _
            simp only [Act.put, List.setIfInBounds_toArray, List.set_cons_zero, List.set_cons_succ, zq, zr]
            rfl
           refine one_ (i := 9) (N := some 37) #[true, true, true, true, true, true, true, true, true, true, false] rfl rfl (one_of HT_.out (by kernel_rfl)) (by decide) (fun K hK => ?_)
           refine Kd.R_append_step Kd.string (w0 := w) w.heap.size (by rfl) (.tmp 28) (.tmp 36) 41 9 (.string ⟨#[]⟩) 16 rfl Tryd.underlying41 info9 rfl (by decide) (by omega) u5 x5_1 (((rd_T53 l0 x12_1).f0).extract ((ji10) : Int).toNat ((rd_T53 l0 x12_1).f0).size) [.string (((rd_T53 l0 x12_1).f0).extract ((ji10) : Int).toNat ((rd_T53 l0 x12_1).f0).size)] (fun _ => True) (fun _ => False) rfl rfl ?aP (fun _ hk => hk.elim) ?aF ?aO ?aB ?aS ?aL ?_
           (case aP => exact rfl)
           (case aB => exact (by repeat (first | (with_reducible first | exact HB.out | apply zg | apply zd | apply zf | refine zj ?_ zA.out) | exact HB.out)))
           (case aF => exact (fun _ _ => trivial))
           (case aO => exact (RL zz.out))
           (case aS => exact (zh (by repeat (first | (with_reducible first | exact HB.out | apply zg | apply zd | apply zf | refine zj ?_ zA.out) | exact HB.out))))
           (case aL => have := LMc13.out; omega)
           intro v213 w18 ho hb hg hat
           rw [← Ny212.out] at ho
           have n0_ := Aside0.mk (blk_grown (g := zy) (o := .cells #[.string ((rd_T53 l0 x12_1).f0), .string ((rd_T53 l0 x12_1).f1), .int .i64 ((rd_T53 l0 x12_1).f2), .int .i64 ((rd_T53 l0 x12_1).f3), .int .i64 ((rd_T53 l0 x12_1).f4), .int .i64 ((rd_T53 l0 x12_1).f5), .int .i64 ((rd_T53 l0 x12_1).f6)] 53 (0, 0)) (BL zx.out) hg (Kd.R_ne zz.out zx.out (by decide)))
           have n1_ := Aside0.mk (hb)
           have n2_ := Aside0.mk (ho)
           clear zx
           clear HB
           clear zz
           have zx := n0_
           have HB := n1_
           have zB := n2_
           clear n0_ n1_ n2_
           clear ho hb hg hat
           refine hK.out _ _ ⟨(ze zx.out 0).trans rfl, (ze zx.out 1).trans rfl, (ze zx.out 2).trans rfl, (ze zx.out 3).trans rfl, (ze zx.out 4).trans rfl, (ze zx.out 5).trans rfl, (ze zx.out 6).trans rfl⟩ (fun hHeld => ?_)
           clear hK K
           refine norm_ (a' := ?_) ?_ ?_
           rotate_left
           ·show Act.put _ (some 37) _ = _
            simp only [Act.put, List.setIfInBounds_toArray, List.set_cons_zero, List.set_cons_succ, zq, zr]
            rfl
           refine zt (i := 10) (N := some 5) (v := ?_) (a' := ?_) #[true, true, true, true, true, true, true, true, true, true, true] rfl rfl (zp HT_.out (by kernel_rfl)) (fun _ _ _ h => h) (Or.inl ⟨by rfl, ?_⟩) ?_ ?_
           rotate_left
           ·intro w'
            go_simp
            with_reducible rfl
           rotate_left
           ·simp only [Act.put, List.setIfInBounds_toArray, List.set_cons_zero, List.set_cons_succ, zq, zr]
            rfl
           refine done_ (done_of HT_.out (by kernel_rfl)) ?_
           try go_wp2
           go_roundg k1
           case measure => have := HK1.out; omega
           case rel => exact ⟨(y212), (wrap64 (x12_1 + 1)), (by first | rfl | (simp; done) | (simp [*]; done)), H', ⟨by have := HK1.out; omega⟩, ⟨RL zB.out⟩, ⟨by repeat (first | (with_reducible first | exact HB.out | apply zg | apply zd | apply zf | refine zj ?_ zA.out) | exact HB.out)⟩⟩
          ·rw [if_neg c13] at H
           exact absurd H (by simp)
         ·rw [if_neg c12] at H
          exact absurd H (by simp)
        ·rw [if_neg c11] at H
         exact absurd H (by simp)
       ·rw [if_neg c8] at H
        have c8b0 : (t209.toList == a1.toList) = false := beq_eq_false_iff_ne.mpr c8
        have c8b1 : (t209.toList != a1.toList) = true := bne_iff_ne.mpr c8
        have H' := Aside0.mk H
        clear H
        have p207 : 0 ≤ (x12_1 : Int) := of_decide_eq_true (by first | (with_reducible assumption) | assumption)
        have q207 : x12_1 < (l0.length : Int) := of_decide_eq_true (by first | (with_reducible assumption) | assumption)
        obtain ⟨ad207, e207, hx207_0, hx207_1, hx207_2, hx207_3, hx207_4, hx207_5, hx207_6⟩ := at_T53 HR0.out x12_1 p207 q207
        cases e207
        replace hx207_0 := zb HB.out hx207_0
        replace hx207_1 := zb HB.out hx207_1
        replace hx207_2 := zb HB.out hx207_2
        replace hx207_3 := zb HB.out hx207_3
        replace hx207_4 := zb HB.out hx207_4
        replace hx207_5 := zb HB.out hx207_5
        replace hx207_6 := zb HB.out hx207_6
        replace p207 := eq_true p207
        replace q207 := eq_true q207
        go_wp2_with (first | ((with_reducible refine zu (N := 7) rfl ?_); refine zs ?hg (N := 7) ?hd (cs := #[.string (⟨#[]⟩ : ByteArray), .string (⟨#[]⟩ : ByteArray), .int .i64 0, .int .i64 0, .int .i64 0, .int .i64 0, .int .i64 0]) (t := 53) ?hr ?_; (case hd => rfl); (case hg => rfl); (case hr => first | (go_simp; done) | (go_simp; rfl)); intro zy hg w19 hbox hb; have n0_ := Aside0.mk (Kd.R_below (RL zz.out) hb); have n1_ := Aside0.mk (zi (by exact bl HB.out) hb); have n2_ := Aside0.mk (hbox); have n3_ := Aside0.mk ((by rw [hg]; exact (zh (by exact bl HB.out)) : w.heap.size ≤ zy)); have n4_ := Aside0.mk ((by rw [hg]; exact (zh (by exact bl HB.out)) : w.heap.size ≤ zy)); clear zz; clear HB; have zz := n0_; have HB := n1_; have zx := n2_; have GW208 := n3_; have zA := n4_; clear n0_ n1_ n2_ n3_ n4_; clear hb hbox hg; have zQ : w19.cell? ⟨zy, 0, none⟩ = some (.string (⟨#[]⟩ : ByteArray)) := (ze zx.out 0).trans rfl; have zR : w19.cell? ⟨zy, 1, none⟩ = some (.string (⟨#[]⟩ : ByteArray)) := (ze zx.out 1).trans rfl; have zS : w19.cell? ⟨zy, 2, none⟩ = some (.int .i64 0) := (ze zx.out 2).trans rfl; have zT : w19.cell? ⟨zy, 3, none⟩ = some (.int .i64 0) := (ze zx.out 3).trans rfl; have zU : w19.cell? ⟨zy, 4, none⟩ = some (.int .i64 0) := (ze zx.out 4).trans rfl; have zV : w19.cell? ⟨zy, 5, none⟩ = some (.int .i64 0) := (ze zx.out 5).trans rfl; have zW : w19.cell? ⟨zy, 6, none⟩ = some (.int .i64 0) := (ze zx.out 6).trans rfl; have zX := zc zx.out 0; have zY := zc zx.out 1; have zZ := zc zx.out 2; have zab := zc zx.out 3; have zbb := zc zx.out 4; have zcb := zc zx.out 5; have zdb := zc zx.out 6) | ((with_reducible refine zk (f := 70) rfl ?_); refine zv (some 19) rfl rfl Tryd.func70 (by kernel_rfl) rfl #[.string ((rd_T53 l0 x12_1).f0)] rfl (by (try simp only [List.map_toArray, List.map_cons, List.map_nil]); first | done | rfl) ?_; (with_reducible refine (impl_parentOf.calls k1 ((rd_T53 l0 x12_1).f0) t209 true _ A6.out).mono ?_); rintro e w21 ⟨rfl, hb⟩; refine ⟨_, rfl, ?_⟩; have n0_ := Aside0.mk (Kd.R_below (RL ((Kd.R_mono (Kd.R_far (p := ⟨zy, 6, none⟩) (Kd.R_far (p := ⟨zy, 5, none⟩) (Kd.R_far (p := ⟨zy, 4, none⟩) (Kd.R_far (p := ⟨zy, 3, none⟩) (Kd.R_far (p := ⟨zy, 2, none⟩) (Kd.R_far (p := ⟨zy, 1, none⟩) (Kd.R_far (p := ⟨zy, 0, none⟩) (Kd.R_types zz.out zx.out (by decide)) (fun _ hk => hk.2) (.string ((rd_T53 l0 x12_1).f0))) (fun _ hk => hk.2) (.string ((rd_T53 l0 x12_1).f1))) (fun _ hk => hk.2) (.int .i64 ((rd_T53 l0 x12_1).f2))) (fun _ hk => hk.2) (.int .i64 ((rd_T53 l0 x12_1).f3))) (fun _ hk => hk.2) (.int .i64 ((rd_T53 l0 x12_1).f4))) (fun _ hk => hk.2) (.int .i64 ((rd_T53 l0 x12_1).f5))) (fun _ hk => hk.2) (.int .i64 ((rd_T53 l0 x12_1).f6))) (fun _ h_ => h_.1)))) hb); have n1_ := Aside0.mk (zm (g := zy) (o := .cells #[.string ((rd_T53 l0 x12_1).f0), .string ((rd_T53 l0 x12_1).f1), .int .i64 ((rd_T53 l0 x12_1).f2), .int .i64 ((rd_T53 l0 x12_1).f3), .int .i64 ((rd_T53 l0 x12_1).f4), .int .i64 ((rd_T53 l0 x12_1).f5), .int .i64 ((rd_T53 l0 x12_1).f6)] 53 (0, 0)) (by (with_reducible repeat (first | refine zn ?_ _ | refine zo ?_ | refine zl ?_ _)); refine zw (cs := #[.string ((rd_T53 l0 x12_1).f0), .string ((rd_T53 l0 x12_1).f1), .int .i64 ((rd_T53 l0 x12_1).f2), .int .i64 ((rd_T53 l0 x12_1).f3), .int .i64 ((rd_T53 l0 x12_1).f4), .int .i64 ((rd_T53 l0 x12_1).f5), .int .i64 0]) ?_ 6 _ rfl; (with_reducible repeat (first | refine zn ?_ _ | refine zo ?_ | refine zl ?_ _)); refine zw (cs := #[.string ((rd_T53 l0 x12_1).f0), .string ((rd_T53 l0 x12_1).f1), .int .i64 ((rd_T53 l0 x12_1).f2), .int .i64 ((rd_T53 l0 x12_1).f3), .int .i64 ((rd_T53 l0 x12_1).f4), .int .i64 0, .int .i64 0]) ?_ 5 _ rfl; (with_reducible repeat (first | refine zn ?_ _ | refine zo ?_ | refine zl ?_ _)); refine zw (cs := #[.string ((rd_T53 l0 x12_1).f0), .string ((rd_T53 l0 x12_1).f1), .int .i64 ((rd_T53 l0 x12_1).f2), .int .i64 ((rd_T53 l0 x12_1).f3), .int .i64 0, .int .i64 0, .int .i64 0]) ?_ 4 _ rfl; (with_reducible repeat (first | refine zn ?_ _ | refine zo ?_ | refine zl ?_ _)); refine zw (cs := #[.string ((rd_T53 l0 x12_1).f0), .string ((rd_T53 l0 x12_1).f1), .int .i64 ((rd_T53 l0 x12_1).f2), .int .i64 0, .int .i64 0, .int .i64 0, .int .i64 0]) ?_ 3 _ rfl; (with_reducible repeat (first | refine zn ?_ _ | refine zo ?_ | refine zl ?_ _)); refine zw (cs := #[.string ((rd_T53 l0 x12_1).f0), .string ((rd_T53 l0 x12_1).f1), .int .i64 0, .int .i64 0, .int .i64 0, .int .i64 0, .int .i64 0]) ?_ 2 _ rfl; (with_reducible repeat (first | refine zn ?_ _ | refine zo ?_ | refine zl ?_ _)); refine zw (cs := #[.string ((rd_T53 l0 x12_1).f0), .string (⟨#[]⟩ : ByteArray), .int .i64 0, .int .i64 0, .int .i64 0, .int .i64 0, .int .i64 0]) ?_ 1 _ rfl; (with_reducible repeat (first | refine zn ?_ _ | refine zo ?_ | refine zl ?_ _)); refine zw (cs := #[.string (⟨#[]⟩ : ByteArray), .string (⟨#[]⟩ : ByteArray), .int .i64 0, .int .i64 0, .int .i64 0, .int .i64 0, .int .i64 0]) ?_ 0 _ rfl; (with_reducible repeat (first | refine zn ?_ _ | refine zo ?_ | refine zl ?_ _)); exact zx.out) hb); have n2_ := Aside0.mk (zi (by repeat (first | (with_reducible first | exact HB.out | apply zg | apply zd | apply zf | refine zj ?_ zA.out) | exact HB.out)) hb); clear zz; clear zx; clear HB; have zz := n0_; have zx := n1_; have HB := n2_; clear n0_ n1_ n2_; (try clear hb); (try clear hb2); (try clear hk); (try clear hi)))
        go_roundg k1
        case measure => have := HK1.out; omega
        case rel => exact ⟨(x5_1), (wrap64 (x12_1 + 1)), (by first | rfl | (simp; done) | (simp [*]; done)), H', ⟨by have := HK1.out; omega⟩, ⟨RL zz.out⟩, ⟨by repeat (first | (with_reducible first | exact HB.out | apply zg | apply zd | apply zf | refine zj ?_ zA.out) | exact HB.out)⟩⟩
      ·replace c7 := Bool.eq_false_iff.mpr c7
       subst c7
       have H1 : (impl_childrenOf.l0 k1 a1 x5_1 l0 (l0.length : Int) (wrap64 (x12_1 + 1))) = some r := by rw [if_neg (show ¬ (false = true) by decide)] at H; exact H
       clear H
       have H := H1
       clear H1
       have H' := Aside0.mk H
       clear H
       have p207 : 0 ≤ (x12_1 : Int) := of_decide_eq_true (by first | (with_reducible assumption) | assumption)
       have q207 : x12_1 < (l0.length : Int) := of_decide_eq_true (by first | (with_reducible assumption) | assumption)
       obtain ⟨ad207, e207, hx207_0, hx207_1, hx207_2, hx207_3, hx207_4, hx207_5, hx207_6⟩ := at_T53 HR0.out x12_1 p207 q207
       cases e207
       replace hx207_0 := zb HB.out hx207_0
       replace hx207_1 := zb HB.out hx207_1
       replace hx207_2 := zb HB.out hx207_2
       replace hx207_3 := zb HB.out hx207_3
       replace hx207_4 := zb HB.out hx207_4
       replace hx207_5 := zb HB.out hx207_5
       replace hx207_6 := zb HB.out hx207_6
       replace p207 := eq_true p207
       replace q207 := eq_true q207
       go_wp2_with (first | ((with_reducible refine zu (N := 7) rfl ?_); refine zs ?hg (N := 7) ?hd (cs := #[.string (⟨#[]⟩ : ByteArray), .string (⟨#[]⟩ : ByteArray), .int .i64 0, .int .i64 0, .int .i64 0, .int .i64 0, .int .i64 0]) (t := 53) ?hr ?_; (case hd => rfl); (case hg => rfl); (case hr => first | (go_simp; done) | (go_simp; rfl)); intro zy hg w22 hbox hb; have n0_ := Aside0.mk (Kd.R_below (RL zz.out) hb); have n1_ := Aside0.mk (zi (by exact bl HB.out) hb); have n2_ := Aside0.mk (hbox); have n3_ := Aside0.mk ((by rw [hg]; exact (zh (by exact bl HB.out)) : w.heap.size ≤ zy)); have n4_ := Aside0.mk ((by rw [hg]; exact (zh (by exact bl HB.out)) : w.heap.size ≤ zy)); clear zz; clear HB; have zz := n0_; have HB := n1_; have zx := n2_; have GW208 := n3_; have zA := n4_; clear n0_ n1_ n2_ n3_ n4_; clear hb hbox hg; have zeb : w22.cell? ⟨zy, 0, none⟩ = some (.string (⟨#[]⟩ : ByteArray)) := (ze zx.out 0).trans rfl; have zfb : w22.cell? ⟨zy, 1, none⟩ = some (.string (⟨#[]⟩ : ByteArray)) := (ze zx.out 1).trans rfl; have zgb : w22.cell? ⟨zy, 2, none⟩ = some (.int .i64 0) := (ze zx.out 2).trans rfl; have zhb : w22.cell? ⟨zy, 3, none⟩ = some (.int .i64 0) := (ze zx.out 3).trans rfl; have zib : w22.cell? ⟨zy, 4, none⟩ = some (.int .i64 0) := (ze zx.out 4).trans rfl; have zjb : w22.cell? ⟨zy, 5, none⟩ = some (.int .i64 0) := (ze zx.out 5).trans rfl; have zkb : w22.cell? ⟨zy, 6, none⟩ = some (.int .i64 0) := (ze zx.out 6).trans rfl; have zlb := zc zx.out 0; have zmb := zc zx.out 1; have znb := zc zx.out 2; have zob := zc zx.out 3; have zpb := zc zx.out 4; have zqb := zc zx.out 5; have zrb := zc zx.out 6) | ((with_reducible refine zk (f := 70) rfl ?_); refine zv (some 19) rfl rfl Tryd.func70 (by kernel_rfl) rfl #[.string ((rd_T53 l0 x12_1).f0)] rfl (by (try simp only [List.map_toArray, List.map_cons, List.map_nil]); first | done | rfl) ?_; (with_reducible refine (impl_parentOf.calls k1 ((rd_T53 l0 x12_1).f0) t209 false _ A6.out).mono ?_); rintro e w24 ⟨rfl, hb⟩; refine ⟨_, rfl, ?_⟩; have n0_ := Aside0.mk (Kd.R_below (RL ((Kd.R_mono (Kd.R_far (p := ⟨zy, 6, none⟩) (Kd.R_far (p := ⟨zy, 5, none⟩) (Kd.R_far (p := ⟨zy, 4, none⟩) (Kd.R_far (p := ⟨zy, 3, none⟩) (Kd.R_far (p := ⟨zy, 2, none⟩) (Kd.R_far (p := ⟨zy, 1, none⟩) (Kd.R_far (p := ⟨zy, 0, none⟩) (Kd.R_types zz.out zx.out (by decide)) (fun _ hk => hk.2) (.string ((rd_T53 l0 x12_1).f0))) (fun _ hk => hk.2) (.string ((rd_T53 l0 x12_1).f1))) (fun _ hk => hk.2) (.int .i64 ((rd_T53 l0 x12_1).f2))) (fun _ hk => hk.2) (.int .i64 ((rd_T53 l0 x12_1).f3))) (fun _ hk => hk.2) (.int .i64 ((rd_T53 l0 x12_1).f4))) (fun _ hk => hk.2) (.int .i64 ((rd_T53 l0 x12_1).f5))) (fun _ hk => hk.2) (.int .i64 ((rd_T53 l0 x12_1).f6))) (fun _ h_ => h_.1)))) hb); have n1_ := Aside0.mk (zm (g := zy) (o := .cells #[.string ((rd_T53 l0 x12_1).f0), .string ((rd_T53 l0 x12_1).f1), .int .i64 ((rd_T53 l0 x12_1).f2), .int .i64 ((rd_T53 l0 x12_1).f3), .int .i64 ((rd_T53 l0 x12_1).f4), .int .i64 ((rd_T53 l0 x12_1).f5), .int .i64 ((rd_T53 l0 x12_1).f6)] 53 (0, 0)) (by (with_reducible repeat (first | refine zn ?_ _ | refine zo ?_ | refine zl ?_ _)); refine zw (cs := #[.string ((rd_T53 l0 x12_1).f0), .string ((rd_T53 l0 x12_1).f1), .int .i64 ((rd_T53 l0 x12_1).f2), .int .i64 ((rd_T53 l0 x12_1).f3), .int .i64 ((rd_T53 l0 x12_1).f4), .int .i64 ((rd_T53 l0 x12_1).f5), .int .i64 0]) ?_ 6 _ rfl; (with_reducible repeat (first | refine zn ?_ _ | refine zo ?_ | refine zl ?_ _)); refine zw (cs := #[.string ((rd_T53 l0 x12_1).f0), .string ((rd_T53 l0 x12_1).f1), .int .i64 ((rd_T53 l0 x12_1).f2), .int .i64 ((rd_T53 l0 x12_1).f3), .int .i64 ((rd_T53 l0 x12_1).f4), .int .i64 0, .int .i64 0]) ?_ 5 _ rfl; (with_reducible repeat (first | refine zn ?_ _ | refine zo ?_ | refine zl ?_ _)); refine zw (cs := #[.string ((rd_T53 l0 x12_1).f0), .string ((rd_T53 l0 x12_1).f1), .int .i64 ((rd_T53 l0 x12_1).f2), .int .i64 ((rd_T53 l0 x12_1).f3), .int .i64 0, .int .i64 0, .int .i64 0]) ?_ 4 _ rfl; (with_reducible repeat (first | refine zn ?_ _ | refine zo ?_ | refine zl ?_ _)); refine zw (cs := #[.string ((rd_T53 l0 x12_1).f0), .string ((rd_T53 l0 x12_1).f1), .int .i64 ((rd_T53 l0 x12_1).f2), .int .i64 0, .int .i64 0, .int .i64 0, .int .i64 0]) ?_ 3 _ rfl; (with_reducible repeat (first | refine zn ?_ _ | refine zo ?_ | refine zl ?_ _)); refine zw (cs := #[.string ((rd_T53 l0 x12_1).f0), .string ((rd_T53 l0 x12_1).f1), .int .i64 0, .int .i64 0, .int .i64 0, .int .i64 0, .int .i64 0]) ?_ 2 _ rfl; (with_reducible repeat (first | refine zn ?_ _ | refine zo ?_ | refine zl ?_ _)); refine zw (cs := #[.string ((rd_T53 l0 x12_1).f0), .string (⟨#[]⟩ : ByteArray), .int .i64 0, .int .i64 0, .int .i64 0, .int .i64 0, .int .i64 0]) ?_ 1 _ rfl; (with_reducible repeat (first | refine zn ?_ _ | refine zo ?_ | refine zl ?_ _)); refine zw (cs := #[.string (⟨#[]⟩ : ByteArray), .string (⟨#[]⟩ : ByteArray), .int .i64 0, .int .i64 0, .int .i64 0, .int .i64 0, .int .i64 0]) ?_ 0 _ rfl; (with_reducible repeat (first | refine zn ?_ _ | refine zo ?_ | refine zl ?_ _)); exact zx.out) hb); have n2_ := Aside0.mk (zi (by repeat (first | (with_reducible first | exact HB.out | apply zg | apply zd | apply zf | refine zj ?_ zA.out) | exact HB.out)) hb); clear zz; clear zx; clear HB; have zz := n0_; have zx := n1_; have HB := n2_; clear n0_ n1_ n2_; (try clear hb); (try clear hb2); (try clear hk); (try clear hi)))
       go_roundg k1
       case measure => have := HK1.out; omega
       case rel => exact ⟨(x5_1), (wrap64 (x12_1 + 1)), (by first | rfl | (simp; done) | (simp [*]; done)), H', ⟨by have := HK1.out; omega⟩, ⟨RL zz.out⟩, ⟨by repeat (first | (with_reducible first | exact HB.out | apply zg | apply zd | apply zf | refine zj ?_ zA.out) | exact HB.out)⟩⟩
     ·rw [if_neg c5] at H
      exact absurd H (by simp)
    ·rw [if_neg c4] at H
     exact absurd H (by simp)
   ·rw [if_neg c3] at H
    have c3b0 : decide (x12_1 < (l0.length : Int)) = false := decide_eq_false c3
    clear c3
    obtain rfl := Option.some.inj H
    go_wp2
    go_ret
    exact ⟨_, by first | rfl | (simp [errW_none, errW_some] <;> rfl) | (simp [*, errW_none, errW_some] <;> rfl), RL zz.out, by repeat (first | (with_reducible first | exact HB.out | apply zg | apply zd | apply zf) | exact HB.out)⟩

def sortS (l : List ByteArray) : List ByteArray := ((l.map (fun b : ByteArray => b.data.toList)).mergeSort fun x y => decide (x ≤ y)).map (fun x => (⟨x.toArray⟩ : ByteArray))
def slices_Sort_string_string.f (l0 : List ByteArray) : Option (List ByteArray) := if l0.length < 4611686018427387904 then some (sortS l0) else none
theorem sortS_len (l : List ByteArray) : (sortS l).length = l.length := by simp [sortS, List.length_mergeSort]
theorem slices_Sort_string_string.calls (P0_ : Nat → Prop) (u9000_ : Value) (l0 : List ByteArray) (r : List ByteArray) (w0 w : World) (hB : Below w0.heap.size w0 w) (zx : Kd.R Kd.string 9 w w0.heap.size P0_ u9000_ l0) (h : slices_Sort_string_string.f l0 = some r) :
  Calls Tryd.prog 47 #[u9000_] w fun e w' => e = .returned (.tuple #[]) ∧ Kd.R Kd.string 9 w' w0.heap.size (fun k_ => (P0_ k_ ∨ w.heap.size ≤ k_)) u9000_ r ∧ Below w0.heap.size w0 w' ∧ Kept w w' (fun k_ => P0_ k_) := by
 unfold slices_Sort_string_string.f at h
 split at h
 ·rename_i hlen
  obtain rfl := Option.some.inj h
  have ho := Kd.own_of_R (enc := Value.string) (h1 := fun _ => rfl) zx
  have hP := zx.1
  obtain ⟨hn, hv⟩ := ho
  rcases hv with ⟨rfl, hz⟩ | ⟨g, cap, cur, rfl, hg, hb, hc1, hc2, hc3, hc4⟩
  ·obtain rfl := List.eq_nil_of_length_eq_zero hz
   refine (Go.Proofs.Tryd.slices_Sort_string_none none 0 w).mono ?_
   rintro e w' ⟨rfl, rfl⟩
   exact ⟨rfl, by rw [show sortS [] = [] by simp [sortS]]; exact Kd.R_nil _ _ _ _ _, hB, Kept.refl _ _⟩
  ·have hPg : P0_ g := hP g rfl
   have hlt := blk_lt hb
   have hss : (l0.map (fun b : ByteArray => b.data.toList)).length = l0.length := by simp
   have hat : ∀ j, j < l0.length → cur[j]? = some (.string (l0.getD j ByteArray.empty)) := by
    intro j hj
    have h2 := congrArg (fun t : List Value => t[j]?) hc4
    simp only [Nat.mul_one, List.getElem?_take, encs] at h2
    rw [if_pos hj, Array.getElem?_toList, List.getElem?_map, List.getElem?_eq_getElem hj] at h2
    rw [h2]
    simp [List.getD_eq_getElem?_getD, List.getElem?_eq_getElem hj]
   have hH : Go.Sort.Holds Go.Proofs.encStr w g 0 (l0.map (fun b : ByteArray => b.data.toList)).toArray := by
    intro j hj
    have hj' : j < l0.length := by simpa using hj
    refine ⟨?_, zc hb _⟩
    rw [ze hb, Nat.zero_add, hat j hj']
    simp [Go.Proofs.encStr, hj', List.getD_eq_getElem?_getD]
   have := Go.Proofs.Tryd.slices_Sort_string g 0 cap (l0.map (fun b : ByteArray => b.data.toList)) w hH hlt (by rw [hss]; exact hlen)
   rw [hss] at this
   refine this.mono ?_
   rintro e w' ⟨rfl, n, os, rfl⟩
   have hD : ((l0.map (fun b : ByteArray => b.data.toList)).mergeSort fun x y => decide (x ≤ y)).length = l0.length := by simp [List.length_mergeSort]
   have hS : sortS l0 = ((l0.map (fun b : ByteArray => b.data.toList)).mergeSort fun x y => decide (x ≤ y)).map (fun x => (⟨x.toArray⟩ : ByteArray)) := rfl
   have hSl := sortS_len l0
   generalize ((l0.map (fun b : ByteArray => b.data.toList)).mergeSort fun x y => decide (x ≤ y)) = D at *
   have hk : ∀ k, k < w.heap.size → (Go.Sort.grow (Go.Sort.putRow Go.Proofs.encStr (Go.Sort.ahead w n) g 0 D.toArray) os).heap[k]? = if g = k then (w.heap[k]?).map (Go.Sort.onCells (Go.Sort.putCells Go.Proofs.encStr 0 D.toArray)) else w.heap[k]? := by
    intro k hk
    show ((w.heap.modify g (Go.Sort.onCells (Go.Sort.putCells Go.Proofs.encStr 0 D.toArray))) ++ os)[k]? = _
    rw [Array.getElem?_append_left (by simpa using hk), Array.getElem?_modify]
   have hsz : w.heap.size ≤ (Go.Sort.grow (Go.Sort.putRow Go.Proofs.encStr (Go.Sort.ahead w n) g 0 D.toArray) os).heap.size := by
    show _ ≤ ((w.heap.modify g (Go.Sort.onCells (Go.Sort.putCells Go.Proofs.encStr 0 D.toArray))) ++ os).size
    simp
   have hKept : Kept w (Go.Sort.grow (Go.Sort.putRow Go.Proofs.encStr (Go.Sort.ahead w n) g 0 D.toArray) os) (fun k_ => P0_ k_) := ⟨hsz, fun i hi hn_ => by rw [hk i hi, if_neg (fun e_ : g = i => hn_ (by rw [← e_]; exact hPg))]⟩
   have hbl : Below w0.heap.size w0 (Go.Sort.grow (Go.Sort.putRow Go.Proofs.encStr (Go.Sort.ahead w n) g 0 D.toArray) os) :=
    ⟨hB.os, hB.tape, hB.output, Nat.le_trans hB.size hsz, fun i hi => by rw [hk i (Nat.lt_of_lt_of_le hi hB.size), if_neg (by omega)]; exact hB.block i hi⟩
   have hgn := hk g hlt
   rw [if_pos rfl, hb] at hgn
   refine ⟨rfl, ?_, hbl, hKept⟩
   rw [← hSl]
   refine Kd.R_of_own (enc := Value.string) (h1 := fun _ => rfl) ⟨by simp [encs], .inr ⟨g, cap, Go.Sort.putCells Go.Proofs.encStr 0 D.toArray cur, rfl, hg, hgn, by omega, hc2, by rw [← hc3]; simp [Go.Sort.putCells], ?_⟩⟩ (fun k hk_ => .inl (hP k (by rw [← hk_, hSl])))
   rw [hS]
   apply List.ext_getElem?
   intro j
   simp only [Nat.mul_one, List.length_map, List.getElem?_take, encs, List.map_map, List.getElem?_map, Array.getElem?_toList, Go.Sort.putCells, Array.getElem?_mapIdx, List.size_toArray, Nat.zero_le, true_and, Nat.zero_add, Nat.sub_zero]
   by_cases hj : j < D.length
   ·rw [if_pos hj, hat j (by omega)]
    simp [hj, Go.Proofs.encStr]
   ·rw [if_neg hj, List.getElem?_eq_none (by omega)]; rfl
 ·cases h

def impl_Children.j0 : Nat → ByteArray → Bool → List (S53) → Option (List ByteArray)
 | 0, _, _, _ => none
 | k + 1, x1, x13, x216000 => if x13 = true then (some ([] : List ByteArray)) else ((impl_childrenOf.f k x216000 x1).bind fun t218 => ((slices_Sort_string_string.f t218).bind fun t221 => (some t221)))
def impl_Children.f (k : Nat) (l0_0 : List (S53)) (a1 : ByteArray) : Option (List ByteArray) := (impl_ValidTree.f k l0_0).bind fun t216 => (if t216 = true then ((impl_ValidPath.f k a1).bind fun t217 => (impl_Children.j0 k a1 (!t217) l0_0)) else (impl_Children.j0 k a1 true l0_0))
theorem impl_Children.mono_l : ∀ k, (∀ y0 y1 y2, LeO (impl_Children.j0 k y0 y1 y2) (impl_Children.j0 (k + 1) y0 y1 y2))
 | 0 => fun _ _ _ r h => by simp [impl_Children.j0] at h
 | k + 1 => by
  have ih0 := impl_Children.mono_l k
  ·intro y0 y1 y2
   unfold impl_Children.j0
   repeat' first
   | (with_reducible exact ih0 _ _ _)
   | (with_reducible exact impl_ValidPath.mono _ _)
   | (with_reducible exact impl_ValidTree.mono _ _)
   | (with_reducible exact impl_childrenOf.mono _ _ _)
   | (with_reducible exact LeO.refl _)
   | (with_reducible exact LeO.none _)
   | (with_reducible refine LeO.ite ?_ ?_)
   | (with_reducible refine LeO.bind ?_ (fun _ => ?_))
   | exact ih0 _ _ _
   | exact impl_ValidPath.mono _ _
   | exact impl_ValidTree.mono _ _
   | exact impl_childrenOf.mono _ _ _
   | exact LeO.none _
   | refine LeO.ite ?_ ?_
   | refine LeO.bind ?_ (fun _ => ?_)
theorem impl_Children.mono : ∀ a0 a1 k, LeO (impl_Children.f k a0 a1) (impl_Children.f (k + 1) a0 a1) := by
 intro a0 a1 k
 have ih0 := impl_Children.mono_l k
 unfold impl_Children.f
 repeat' first
   | (with_reducible exact ih0 _ _ _)
   | (with_reducible exact impl_ValidPath.mono _ _)
   | (with_reducible exact impl_ValidTree.mono _ _)
   | (with_reducible exact impl_childrenOf.mono _ _ _)
   | (with_reducible exact LeO.refl _)
   | (with_reducible exact LeO.none _)
   | (with_reducible refine LeO.ite ?_ ?_)
   | (with_reducible refine LeO.bind ?_ (fun _ => ?_))
   | exact ih0 _ _ _
   | exact impl_ValidPath.mono _ _
   | exact impl_ValidTree.mono _ _
   | exact impl_childrenOf.mono _ _ _
   | exact LeO.none _
   | refine LeO.ite ?_ ?_
   | refine LeO.bind ?_ (fun _ => ?_)
set_option maxHeartbeats 8000000 in
set_option maxRecDepth 100000 in
theorem impl_Children.calls (k : Nat) (A0_0 : Option Addr) (c0_0 : Nat) (l0_0 : List (S53)) (a1 : ByteArray) (r : List ByteArray) (w : World) (hr0_0 : Kd.C k53 w A0_0 l0_0.length l0_0) (hc0_0 : l0_0.length ≤ c0_0) (h : impl_Children.f k l0_0 a1 = some r) (hGMAX_ : Go.Proofs.YtejecjjimggjeaaDoorH.GFMAX w) :
  Calls Tryd.prog 20 #[.agg #[.slice A0_0 l0_0.length c0_0], .string a1] w fun e w' => ∃ v0_ : Value, e = .returned (v0_) ∧ Kd.R Kd.string 9 w' w.heap.size (fun _ => True) v0_ r ∧ Below w.heap.size w w' := by
 have HGMAX_ := Aside0.mk hGMAX_
 clear hGMAX_
 have hu45 := Tryd.underlying45
 have HR0_0 := Aside0.mk hr0_0
 have HC0_0 := Aside0.mk hc0_0
 clear hr0_0 hc0_0
 have HB := Aside0.mk (Below.refl w.heap.size w)
 have H : ((impl_ValidTree.f k l0_0).bind fun t216 => (if t216 = true then ((impl_ValidPath.f k a1).bind fun t217 => (impl_Children.j0 k a1 (!t217) l0_0)) else (impl_Children.j0 k a1 true l0_0))) = some r := h
 clear h
 have HC3 := Aside0.mk H
 clear H
 go_enter Tryd.func20, Tryd.ntmps20
 go_upto_region 1 with (first | ((with_reducible refine zu (N := 2) rfl ?_); refine zs ?hg (N := 2) ?hd (cs := #[.slice A0_0 l0_0.length c0_0]) (t := 45) ?hr ?_; (case hd => rfl); (case hg => rfl); (case hr => first | (go_simp; done) | (go_simp; rfl)); intro zy hg w4 hbox hb; have n0_ := Aside0.mk (zi (by exact bl HB.out) hb); have n1_ := Aside0.mk (hbox); have n2_ := Aside0.mk ((by rw [hg]; exact (zh (by exact bl HB.out)) : w.heap.size ≤ zy)); have n3_ := Aside0.mk ((by rw [hg]; exact (zh (by exact bl HB.out)) : w.heap.size ≤ zy)); clear HB; have HB := n0_; have zx := n1_; have GW215 := n2_; have zA := n3_; clear n0_ n1_ n2_ n3_; clear hb hbox hg))
 (try simp only [Act.put, List.setIfInBounds_toArray, List.set_cons_zero, List.set_cons_succ])
 go_cut [13] (fun v13 wc => ∃ (kq : Nat) (x13_2 : Bool), v13 = .bool x13_2 ∧ Aside0 (impl_Children.j0 kq a1 x13_2 l0_0 = some r) ∧ Aside0 (kq ≤ k) ∧ Aside0 (wc.heap[zy]? = some (.cells #[(.slice A0_0 l0_0.length c0_0)] 45 (0, 0))) ∧ Aside0 (Below w.heap.size w wc))
 case first =>
  have H := HC3.out
  clear HC3
  replace H := Option.bind_eq_some_iff.mp H
  obtain ⟨t216, A50, H⟩ := H
  replace H : (if t216 = true then ((impl_ValidPath.f k a1).bind fun t217 => (impl_Children.j0 k a1 (!t217) l0_0)) else (impl_Children.j0 k a1 true l0_0)) = some r := H
  have A5 := Aside0.mk A50
  clear A50
  by_cases c6 : t216 = true
  ·subst c6
   have H1 : ((impl_ValidPath.f k a1).bind fun t217 => (impl_Children.j0 k a1 (!t217) l0_0)) = some r := by rw [if_pos rfl] at H; exact H
   clear H
   have H := H1
   clear H1
   replace H := Option.bind_eq_some_iff.mp H
   obtain ⟨t217, A70, H⟩ := H
   replace H : (impl_Children.j0 k a1 (!t217) l0_0) = some r := H
   have A7 := Aside0.mk A70
   clear A70
   have H' := Aside0.mk H
   clear H
   have zD : w4.cell? ⟨zy, 0, none⟩ = some (.slice A0_0 l0_0.length c0_0) := (ze zx.out 0).trans rfl
   have zE := zc zx.out 0
   go_wp2_with (first | ((with_reducible refine zk (f := 44) rfl ?_); refine zv (some 7) rfl rfl Tryd.func44 (by kernel_rfl) rfl #[.agg #[.slice A0_0 l0_0.length c0_0]] rfl (by (try simp only [List.map_toArray, List.map_cons, List.map_nil]); first | done | rfl) ?_; (with_reducible refine (impl_ValidTree.calls k _ _ l0_0 true _ ?side1 ?side2 A5.out ?globMAX_).mono ?_); (case globMAX_ => exact Go.Proofs.YtejecjjimggjeaaDoorH.GFMAX.below HGMAX_.out (by repeat (first | (with_reducible first | exact HB.out | exact Below.refl _ _ | apply zg | apply zd | apply zf | refine zj ?_ (Aside0.out (by assumption))) | exact HB.out))); (case side1 => repeat (first | exact (Kd.C_below HR0_0.out HB.out) | (with_reducible refine Kd.C_alloc ?_ _) | (with_reducible refine Kd.C_drewN ?_ _) | (with_reducible refine Kd.C_drew ?_))); (case side2 => exact HC0_0.out); rintro e w9 ⟨rfl, hb⟩; refine ⟨_, rfl, ?_⟩; have n0_ := Aside0.mk (zm (g := zy) (o := .cells #[.slice A0_0 l0_0.length c0_0] 45 (0, 0)) (BL zx.out) hb); have n1_ := Aside0.mk (zi (by exact bl HB.out) hb); clear zx; clear HB; have zx := n0_; have HB := n1_; clear n0_ n1_; (try clear hb); (try clear hb2); (try clear hk); (try clear hi)) | (go_at_call 45; (with_reducible refine (impl_ValidPath.calls k a1 t217 _ A7.out ?globMAX_).mono ?_); (case globMAX_ => exact Go.Proofs.YtejecjjimggjeaaDoorH.GFMAX.below HGMAX_.out (by repeat (first | (with_reducible first | exact HB.out | exact Below.refl _ _ | apply zg | apply zd | apply zf | refine zj ?_ (Aside0.out (by assumption))) | exact HB.out))); rintro e w10 ⟨rfl, hb⟩; have n0_ := Aside0.mk (zm (g := zy) (o := .cells #[.slice A0_0 l0_0.length c0_0] 45 (0, 0)) (BL zx.out) hb); have n1_ := Aside0.mk (zi (by exact bl HB.out) hb); clear zx; clear HB; have zx := n0_; have HB := n1_; clear n0_ n1_; (try clear hb); (try clear hb2); (try clear hk); (try clear hi)))
   go_meet
   case rel => exact ⟨_, (!t217), (by first | rfl | (simp; done) | (simp [*]; done)), H', ⟨by first | omega | exact Nat.le_refl _⟩, ⟨BL zx.out⟩, ⟨by repeat (first | (with_reducible first | exact HB.out | apply zg | apply zd | apply zf | refine zj ?_ zA.out) | exact HB.out)⟩⟩
  ·replace c6 := Bool.eq_false_iff.mpr c6
   subst c6
   have H1 : (impl_Children.j0 k a1 true l0_0) = some r := by rw [if_neg (show ¬ (false = true) by decide)] at H; exact H
   clear H
   have H := H1
   clear H1
   have H' := Aside0.mk H
   clear H
   have zB : w4.cell? ⟨zy, 0, none⟩ = some (.slice A0_0 l0_0.length c0_0) := (ze zx.out 0).trans rfl
   have zC := zc zx.out 0
   go_wp2_with (first | ((with_reducible refine zk (f := 44) rfl ?_); refine zv (some 7) rfl rfl Tryd.func44 (by kernel_rfl) rfl #[.agg #[.slice A0_0 l0_0.length c0_0]] rfl (by (try simp only [List.map_toArray, List.map_cons, List.map_nil]); first | done | rfl) ?_; (with_reducible refine (impl_ValidTree.calls k _ _ l0_0 false _ ?side1 ?side2 A5.out ?globMAX_).mono ?_); (case globMAX_ => exact Go.Proofs.YtejecjjimggjeaaDoorH.GFMAX.below HGMAX_.out (by repeat (first | (with_reducible first | exact HB.out | exact Below.refl _ _ | apply zg | apply zd | apply zf | refine zj ?_ (Aside0.out (by assumption))) | exact HB.out))); (case side1 => repeat (first | exact (Kd.C_below HR0_0.out HB.out) | (with_reducible refine Kd.C_alloc ?_ _) | (with_reducible refine Kd.C_drewN ?_ _) | (with_reducible refine Kd.C_drew ?_))); (case side2 => exact HC0_0.out); rintro e w12 ⟨rfl, hb⟩; refine ⟨_, rfl, ?_⟩; have n0_ := Aside0.mk (zm (g := zy) (o := .cells #[.slice A0_0 l0_0.length c0_0] 45 (0, 0)) (BL zx.out) hb); have n1_ := Aside0.mk (zi (by exact bl HB.out) hb); clear zx; clear HB; have zx := n0_; have HB := n1_; clear n0_ n1_; (try clear hb); (try clear hb2); (try clear hk); (try clear hi)))
   go_meet
   case rel => exact ⟨_, (true), (by first | rfl | (simp; done) | (simp [*]; done)), H', ⟨by first | omega | exact Nat.le_refl _⟩, ⟨BL zx.out⟩, ⟨by repeat (first | (with_reducible first | exact HB.out | apply zg | apply zd | apply zf | refine zj ?_ zA.out) | exact HB.out)⟩⟩
 case rest =>
  clear HC3
  try clear c2
  try clear p2
  try clear c4
  try clear c6
  try clear zB
  try clear zD
  try clear zC
  try clear zE
  obtain ⟨kq, x13_2, rfl, HA, HJ2, zx, HB⟩ := hcut
  cases kq with
  | zero => exact absurd HA.out (by simp [impl_Children.j0])
  | succ kj2 =>
   have H := HA.out
   clear HA
   simp only [impl_Children.j0] at H
   by_cases c13 : x13_2 = true
   ·subst c13
    have H1 : (some ([] : List ByteArray)) = some r := by rw [if_pos rfl] at H; exact H
    clear H
    have H := H1
    clear H1
    obtain rfl := Option.some.inj H
    go_wp2
    go_ret
    exact ⟨_, by first | rfl | (simp [errW_none, errW_some] <;> rfl) | (simp [*, errW_none, errW_some] <;> rfl), by first | exact Kd.R_nil _ _ _ _ _ | exact Kd.N_nil _ _ _ _ _ | exact Kd.V_nil _ _ _ _ _ | exact Kd.Q_nil _ _ _ _ _ | exact Kd.S_nil _ _ _ _ _, by repeat (first | (with_reducible first | exact HB.out | apply zg | apply zd | apply zf | refine zj ?_ zA.out) | exact HB.out)⟩
   ·replace c13 := Bool.eq_false_iff.mpr c13
    subst c13
    have H1 : ((impl_childrenOf.f kj2 l0_0 a1).bind fun t218 => ((slices_Sort_string_string.f t218).bind fun t221 => (some t221))) = some r := by rw [if_neg (show ¬ (false = true) by decide)] at H; exact H
    clear H
    have H := H1
    clear H1
    replace H := Option.bind_eq_some_iff.mp H
    obtain ⟨t218, A140, H⟩ := H
    replace H : ((slices_Sort_string_string.f t218).bind fun t221 => (some t221)) = some r := H
    have A14 := Aside0.mk A140
    clear A140
    replace H := Option.bind_eq_some_iff.mp H
    obtain ⟨t221, A150, H⟩ := H
    replace H : (some t221) = some r := H
    have A15 := Aside0.mk A150
    clear A150
    obtain rfl := Option.some.inj H
    have zG : wc.cell? ⟨zy, 0, none⟩ = some (.slice A0_0 l0_0.length c0_0) := (ze zx.out 0).trans rfl
    have zH := zc zx.out 0
    go_wp2_with (first | ((with_reducible refine zk (f := 46) rfl ?_); refine zv (some 17) rfl rfl Tryd.func46 (by kernel_rfl) rfl #[.slice A0_0 l0_0.length c0_0, .string a1] rfl (by (try simp only [List.map_toArray, List.map_cons, List.map_nil]); first | done | rfl) ?_; (with_reducible refine (impl_childrenOf.calls kj2 _ _ l0_0 a1 t218 _ ?side1 ?side2 A14.out).mono ?_); (case side1 => repeat (first | exact (Kd.C_below HR0_0.out HB.out) | (with_reducible refine Kd.C_alloc ?_ _) | (with_reducible refine Kd.C_drewN ?_ _) | (with_reducible refine Kd.C_drew ?_))); (case side2 => exact HC0_0.out); rintro e w17 ⟨v219, rfl, zF, hb⟩; refine ⟨_, rfl, ?_⟩; have n0_ := Aside0.mk (Kd.R_lower zF (zh (by exact bl HB.out))); have n1_ := Aside0.mk (zm (g := zy) (o := .cells #[.slice A0_0 l0_0.length c0_0] 45 (0, 0)) (BL zx.out) hb); have n2_ := Aside0.mk (zi (by exact bl HB.out) hb); clear zx; clear HB; have zz := n0_; have zx := n1_; have HB := n2_; clear n0_ n1_ n2_; (try clear hb); (try clear hb2); (try clear hk); (try clear hi); (try clear zF); obtain ⟨Ao18, co18, eo18⟩ := Kd.R_slice zz.out; subst eo18) | ((with_reducible refine zk (f := 47) rfl ?_); refine zv (some 19) rfl rfl Tryd.func47 (by kernel_rfl) rfl #[.slice Ao18 t218.length co18] rfl (by (try simp only [List.map_toArray, List.map_cons, List.map_nil]); first | done | rfl) ?_; (with_reducible refine (slices_Sort_string_string.calls (fun k_ => some k_ = (.slice Ao18 t218.length co18 : Value).ownBlock) (.slice Ao18 t218.length co18) t218 t221 w _ ?side1 ?side2 A15.out).mono ?_); (case side1 => exact bl HB.out); (case side2 => exact Kd.R_tight rfl zz.out); rintro e w19 ⟨rfl, hy0, hb, hkp⟩; refine ⟨_, rfl, ?_⟩; have n0_ := Aside0.mk (blk_kept (BL zx.out) hkp (fun hs_ => (fun e_ => (Kd.R_ne zz.out zx.out (by decide)) e_) hs_)); have n1_ := Aside0.mk (Kd.R_reok rfl hy0 (fun k_ e_ => zz.out.1 k_ e_)); have n2_ := Aside0.mk (hb); clear zx; clear zz; clear HB; have zx := n0_; have zz := n1_; have HB := n2_; clear n0_ n1_ n2_; (try clear hb); (try clear hkp); (try clear hy0)))
    go_ret
    exact ⟨_, by first | rfl | (simp [errW_none, errW_some] <;> rfl) | (simp [*, errW_none, errW_some] <;> rfl), RL zz.out, by repeat (first | (with_reducible first | exact HB.out | apply zg | apply zd | apply zf | refine zj ?_ zA.out) | exact HB.out)⟩

end Go.Proofs.YtejecjjimggjeaaDoor.GFnExactChildren
