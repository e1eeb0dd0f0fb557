/- Written by give.py, a program of this session, that runs the kit's print and lays contracts proved by hand beside it. -/
import Derived.Test.YtejecjjimggjeaaDoorGFnExactDecodeTxnx0
import Derived.Test.YtejecjjimggjeaaDoorGFnExactDecodeTxnx1
import Derived.Test.YtejecjjimggjeaaDoorGFnExactDecodeTxnx7
namespace Go.Proofs.YtejecjjimggjeaaDoor.GFnExactDecodeTxn
open Go.RowKit Go.Proofs.YtejecjjimggjeaaDoorW.PrintWords Go.Proofs.YtejecjjimggjeaaDoorW.PrintLast Go.Proofs.YtejecjjimggjeaaDoorW.PrintMore
attribute [local go_sem] max2_int min2_int max_two min_two max_three min_three max_four min_four
attribute [local go_sem high] Go.Proofs.YtejecjjimggjeaaDoorH.str_leq Go.Proofs.YtejecjjimggjeaaDoorH.str_geq Go.Proofs.YtejecjjimggjeaaDoorH.str_gtr   -- for this text's walks alone
set_option linter.unusedVariables false
set_option linter.unusedSimpArgs false

attribute [local go_sem high] eqA53
mutual
def impl_ValidTxn.j0 : Nat → Bool → Int → List (S55) → Option (Bool)
 | 0, _, _, _ => none
 | k + 1, x19, x195000, x195001 => if x19 = true then (some false) else (impl_ValidTxn.l0 k (⟨#[]⟩ : ByteArray) x195001 (x195001.length : Int) 0)
def impl_ValidTxn.l0 : Nat → ByteArray → List (S55) → Int → Int → Option (Bool)
 | 0, _, _, _, _ => none
 | k + 1, x3, x21, x22, x23 => if x23 < x22 then (if 0 ≤ x23 then (if x23 < (x21.length : Int) then ((impl_Node_valid.f k ((rd_T55 x21 x23).f1.f0) ((rd_T55 x21 x23).f1.f1) ((rd_T55 x21 x23).f1.f2) ((rd_T55 x21 x23).f1.f3) ((rd_T55 x21 x23).f1.f4) ((rd_T55 x21 x23).f1.f5) ((rd_T55 x21 x23).f1.f6)).bind fun t197 => (if t197 = true then (if ((Op.bytesLess x3.toList (((rd_T55 x21 x23).f1.f0).toList)) = true) then (if (rd_T55 x21 x23).f0 = true then (if (!((((rd_T55 x21 x23).f1.f1).toList) == ([] : List UInt8)) || (!(((rd_T55 x21 x23).f1.f2) == 0) || (!(((rd_T55 x21 x23).f1.f3) == 0) || (!(((rd_T55 x21 x23).f1.f4) == 0) || (!(((rd_T55 x21 x23).f1.f5) == 0) || (!(((rd_T55 x21 x23).f1.f6) == 0))))))) = true then (some false) else (impl_ValidTxn.l0 k ((rd_T55 x21 x23).f1.f0) x21 x22 (wrap64 (x23 + 1)))) else (impl_ValidTxn.l0 k ((rd_T55 x21 x23).f1.f0) x21 x22 (wrap64 (x23 + 1)))) else (some false)) else (some false))) else (none)) else (none)) else (some true)
end
def impl_ValidTxn.f (k : Nat) (a0_0 : Int) (l0_1 : List (S55)) : Option (Bool) := if a0_0 < 1 then (impl_ValidTxn.j0 k true a0_0 l0_1) else (if a0_0 > 2147483647 then (impl_ValidTxn.j0 k true a0_0 l0_1) else (impl_ValidTxn.j0 k (decide ((l0_1.length : Int) > 1000)) a0_0 l0_1))
theorem impl_ValidTxn.mono_l : ∀ k, (∀ y0 y1 y2, LeO (impl_ValidTxn.j0 k y0 y1 y2) (impl_ValidTxn.j0 (k + 1) y0 y1 y2)) ∧ (∀ y0 y1 y2 y3, LeO (impl_ValidTxn.l0 k y0 y1 y2 y3) (impl_ValidTxn.l0 (k + 1) y0 y1 y2 y3))
 | 0 => ⟨fun _ _ _ r h => by simp [impl_ValidTxn.j0] at h, fun _ _ _ _ r h => by simp [impl_ValidTxn.l0] at h⟩
 | k + 1 => by
  obtain ⟨ih0, ih1⟩ := impl_ValidTxn.mono_l k
  refine ⟨?_, ?_⟩
  ·intro y0 y1 y2
   unfold impl_ValidTxn.j0
   repeat' first
   | (with_reducible exact ih0 _ _ _)
   | (with_reducible exact ih1 _ _ _ _)
   | (with_reducible exact impl_Node_valid.mono _ _ _ _ _ _ _ _)
   | (with_reducible exact LeO.refl _)
   | (with_reducible exact LeO.none _)
   | (with_reducible refine LeO.ite ?_ ?_)
   | (with_reducible refine LeO.bind ?_ (fun _ => ?_))
   | exact ih0 _ _ _
   | exact ih1 _ _ _ _
   | exact impl_Node_valid.mono _ _ _ _ _ _ _ _
   | exact LeO.none _
   | refine LeO.ite ?_ ?_
   | refine LeO.bind ?_ (fun _ => ?_)
  ·intro y0 y1 y2 y3
   unfold impl_ValidTxn.l0
   repeat' first
   | (with_reducible exact ih0 _ _ _)
   | (with_reducible exact ih1 _ _ _ _)
   | (with_reducible exact impl_Node_valid.mono _ _ _ _ _ _ _ _)
   | (with_reducible exact LeO.refl _)
   | (with_reducible exact LeO.none _)
   | (with_reducible refine LeO.ite ?_ ?_)
   | (with_reducible refine LeO.bind ?_ (fun _ => ?_))
   | exact ih0 _ _ _
   | exact ih1 _ _ _ _
   | exact impl_Node_valid.mono _ _ _ _ _ _ _ _
   | exact LeO.none _
   | refine LeO.ite ?_ ?_
   | refine LeO.bind ?_ (fun _ => ?_)
theorem impl_ValidTxn.mono : ∀ a0 a1 k, LeO (impl_ValidTxn.f k a0 a1) (impl_ValidTxn.f (k + 1) a0 a1) := by
 intro a0 a1 k
 obtain ⟨ih0, ih1⟩ := impl_ValidTxn.mono_l k
 unfold impl_ValidTxn.f
 repeat' first
   | (with_reducible exact ih0 _ _ _)
   | (with_reducible exact ih1 _ _ _ _)
   | (with_reducible exact impl_Node_valid.mono _ _ _ _ _ _ _ _)
   | (with_reducible exact LeO.refl _)
   | (with_reducible exact LeO.none _)
   | (with_reducible refine LeO.ite ?_ ?_)
   | (with_reducible refine LeO.bind ?_ (fun _ => ?_))
   | exact ih0 _ _ _
   | exact ih1 _ _ _ _
   | exact impl_Node_valid.mono _ _ _ _ _ _ _ _
   | exact LeO.none _
   | refine LeO.ite ?_ ?_
   | refine LeO.bind ?_ (fun _ => ?_)
set_option maxHeartbeats 8000000 in
set_option maxRecDepth 100000 in
theorem impl_ValidTxn.calls (k : Nat) (a0_0 : Int) (A0_1 : Option Addr) (c0_1 : Nat) (l0_1 : List (S55)) (r : Bool) (w : World) (hr0_1 : Kd.C k55 w A0_1 l0_1.length l0_1) (hc0_1 : l0_1.length ≤ c0_1) (h : impl_ValidTxn.f k a0_0 l0_1 = some r) (hGMAX_ : Go.Proofs.YtejecjjimggjeaaDoorH.GFMAX w) :
  Calls Tryd.prog 34 #[.agg #[.int .i64 a0_0, .slice A0_1 l0_1.length c0_1]] w fun e w' => e = .returned (.bool r) ∧ Below w.heap.size w w' := by
 have HGMAX_ := Aside0.mk hGMAX_
 clear hGMAX_
 have hu25 := Tryd.underlying25
 have hu55 := Tryd.underlying55
 have hu53 := Tryd.underlying53
 have HR0_1 := Aside0.mk hr0_1
 have HC0_1 := Aside0.mk hc0_1
 clear hr0_1 hc0_1
 have HB := Aside0.mk (Below.refl w.heap.size w)
 have H : (if a0_0 < 1 then (impl_ValidTxn.j0 k true a0_0 l0_1) else (if a0_0 > 2147483647 then (impl_ValidTxn.j0 k true a0_0 l0_1) else (impl_ValidTxn.j0 k (decide ((l0_1.length : Int) > 1000)) a0_0 l0_1))) = some r := h
 clear h
 have HC2 := Aside0.mk H
 clear H
 go_enter Tryd.func34, Tryd.ntmps34
 go_upto_region 1 with (first | ((with_reducible refine zw (N := 1) rfl ?_); (try (refine gate_guard (by rfl) ?_; dsimp only)); refine zx ?hg (N := 1) ?hd (cs := #[.int .i64 a0_0, .slice A0_1 l0_1.length c0_1]) (t := 25) ?hr ?_; (case hd => rfl); (case hg => rfl); (case hr => first | (go_simp; done) | (go_simp; rfl)); intro zE hg w3 hbox hb; have n0_ := Aside0.mk (zm (by repeat (first | (with_reducible first | exact HB.out | apply zf | apply zc | apply ze) | exact HB.out)) hb); have n1_ := Aside0.mk (hbox); have n2_ := Aside0.mk ((by rw [hg]; exact (zl (by repeat (first | (with_reducible first | exact HB.out | apply zf | apply zc | apply ze) | exact HB.out))) : w.heap.size ≤ zE)); have n3_ := Aside0.mk ((by rw [hg]; exact (zl (by repeat (first | (with_reducible first | exact HB.out | apply zf | apply zc | apply ze) | exact HB.out))) : w.heap.size ≤ zE)); clear HB; have HB := n0_; have zD := n1_; have GW194 := n2_; have zF := n3_; clear n0_ n1_ n2_ n3_; clear hb hbox hg))
 (try simp only [Act.put, List.setIfInBounds_toArray, List.set_cons_zero, List.set_cons_succ])
 go_cut [19] (fun v19 wc => ∃ (kq : Nat) (x19_1 : Bool), v19 = .bool x19_1 ∧ Aside0 (impl_ValidTxn.j0 kq x19_1 a0_0 l0_1 = some r) ∧ Aside0 (kq ≤ k) ∧ Aside0 (wc.heap[zE]? = some (.cells #[.int .i64 a0_0, (.slice A0_1 l0_1.length c0_1)] 25 (0, 0))) ∧ Aside0 (Below w.heap.size w wc))
 case first =>
  have H := HC2.out
  clear HC2
  by_cases c4 : a0_0 < 1
  ·rw [if_pos c4] at H
   have c4b0 : decide (a0_0 < 1) = true := decide_eq_true c4
   clear c4
   (first | rw [c4b0] | (simp only [zp, zr]; rw [c4b0]) | skip)
   have H' := Aside0.mk H
   clear H
   have zI : w3.cell? ⟨zE, 0, none⟩ = some (.int .i64 a0_0) := (zi zD.out 0).trans rfl
   have zJ : w3.cell? ⟨zE, 1, none⟩ = some (.slice A0_1 l0_1.length c0_1) := (zi zD.out 1).trans rfl
   have zK := zd zD.out 0
   have zL := zd zD.out 1
   go_wp2
   go_meet
   case rel => exact ⟨_, (true), (by first | rfl | (simp; done) | (simp [*]; done)), H', ⟨by first | omega | exact Nat.le_refl _⟩, ⟨by (with_reducible repeat (first | refine zh ?_ _ | refine zj ?_ | refine zg ?_ _)); exact zD.out⟩, ⟨by repeat (first | (with_reducible first | exact HB.out | apply zf | apply zc | apply ze | refine zk ?_ zF.out) | exact HB.out)⟩⟩
  ·rw [if_neg c4] at H
   have c4b0 : decide (a0_0 < 1) = false := decide_eq_false c4
   clear c4
   (first | rw [c4b0] | (simp only [zp, zr]; rw [c4b0]) | skip)
   by_cases c6 : a0_0 > 2147483647
   ·rw [if_pos c6] at H
    have c6b0 : decide (2147483647 < a0_0) = true := decide_eq_true c6
    clear c6
    have H' := Aside0.mk H
    clear H
    have zM : w3.cell? ⟨zE, 0, none⟩ = some (.int .i64 a0_0) := (zi zD.out 0).trans rfl
    have zN : w3.cell? ⟨zE, 1, none⟩ = some (.slice A0_1 l0_1.length c0_1) := (zi zD.out 1).trans rfl
    have zO := zd zD.out 0
    have zP := zd zD.out 1
    go_wp2
    go_meet
    case rel => exact ⟨_, (true), (by first | rfl | (simp; done) | (simp [*]; done)), H', ⟨by first | omega | exact Nat.le_refl _⟩, ⟨by (with_reducible repeat (first | refine zh ?_ _ | refine zj ?_ | refine zg ?_ _)); exact zD.out⟩, ⟨by repeat (first | (with_reducible first | exact HB.out | apply zf | apply zc | apply ze | refine zk ?_ zF.out) | exact HB.out)⟩⟩
   ·rw [if_neg c6] at H
    have c6b0 : decide (2147483647 < a0_0) = false := decide_eq_false c6
    clear c6
    have H' := Aside0.mk H
    clear H
    have zQ : w3.cell? ⟨zE, 0, none⟩ = some (.int .i64 a0_0) := (zi zD.out 0).trans rfl
    have zR : w3.cell? ⟨zE, 1, none⟩ = some (.slice A0_1 l0_1.length c0_1) := (zi zD.out 1).trans rfl
    have zS := zd zD.out 0
    have zT := zd zD.out 1
    go_wp2
    go_meet
    case rel => exact ⟨_, (decide ((l0_1.length : Int) > 1000)), (by first | rfl | (simp; done) | (simp [*]; done)), H', ⟨by first | omega | exact Nat.le_refl _⟩, ⟨by (with_reducible repeat (first | refine zh ?_ _ | refine zj ?_ | refine zg ?_ _)); exact zD.out⟩, ⟨by repeat (first | (with_reducible first | exact HB.out | apply zf | apply zc | apply ze | refine zk ?_ zF.out) | exact HB.out)⟩⟩
 case rest =>
  clear HC2
  try clear p2
  try clear c3
  try clear c4
  try clear c4b0
  try clear c6
  try clear c6b0
  try clear zI
  try clear zJ
  try clear zM
  try clear zN
  try clear zQ
  try clear zR
  try clear zK
  try clear zL
  try clear zO
  try clear zP
  try clear zS
  try clear zT
  obtain ⟨kq, x19_1, rfl, HA, HJ1, zD, HB⟩ := hcut
  cases kq with
  | zero => exact absurd HA.out (by simp [impl_ValidTxn.j0])
  | succ kj1 =>
   have H := HA.out
   clear HA
   simp only [impl_ValidTxn.j0] at H
   by_cases c9 : x19_1 = true
   ·subst c9
    have H1 : (some false) = some r := by rw [if_pos rfl] at H; exact H
    clear H
    have H := H1
    clear H1
    obtain rfl := Option.some.inj H
    go_wp2
    go_ret
    exact ⟨by first | rfl | (simp [errW_none, errW_some] <;> rfl) | (simp [*, errW_none, errW_some] <;> rfl), by repeat (first | (with_reducible first | exact HB.out | apply zf | apply zc | apply ze | refine zk ?_ zF.out) | exact HB.out)⟩
   ·replace c9 := Bool.eq_false_iff.mpr c9
    subst c9
    have H1 : (impl_ValidTxn.l0 kj1 (⟨#[]⟩ : ByteArray) l0_1 (l0_1.length : Int) 0) = some r := by rw [if_neg (show ¬ (false = true) by decide)] at H; exact H
    clear H
    have H := H1
    clear H1
    have H' := Aside0.mk H
    clear H
    have zU : wc.cell? ⟨zE, 0, none⟩ = some (.int .i64 a0_0) := (zi zD.out 0).trans rfl
    have zV : wc.cell? ⟨zE, 1, none⟩ = some (.slice A0_1 l0_1.length c0_1) := (zi zD.out 1).trans rfl
    have zW := zd zD.out 0
    have zX := zd zD.out 1
    go_wp2
    go_loopg [3, 23] kj1 (fun kq v3 v23 w' => ∃ (x3_2 : ByteArray) (x23_2 : Int), v3 = .string x3_2 ∧ v23 = .int .i64 x23_2 ∧ Aside0 (impl_ValidTxn.l0 kq x3_2 l0_1 (l0_1.length : Int) x23_2 = some r) ∧ Aside0 (kq ≤ kj1) ∧ Aside0 (w'.heap[zE]? = some (.cells #[.int .i64 a0_0, (.slice A0_1 l0_1.length c0_1)] 25 (0, 0))) ∧ Aside0 (Below w.heap.size w w'))
    case atStart => exact ⟨((⟨#[]⟩ : ByteArray)), (0), (by first | rfl | (simp; done) | (simp [*]; done)), (by first | rfl | (simp; done) | (simp [*]; done)), H', ⟨Nat.le_refl _⟩, ⟨by (with_reducible repeat (first | refine zh ?_ _ | refine zj ?_ | refine zg ?_ _)); exact zD.out⟩, ⟨by repeat (first | (with_reducible first | exact HB.out | apply zf | apply zc | apply ze | refine zk ?_ zF.out) | exact HB.out)⟩⟩
    case round =>
     clear H'
     try clear p2
     try clear c3
     try clear c4
     try clear c4b0
     try clear c6
     try clear c6b0
     try clear c9
     try clear zU
     try clear zV
     try clear zI
     try clear zJ
     try clear zM
     try clear zN
     try clear zQ
     try clear zR
     try clear zW
     try clear zX
     try clear zK
     try clear zL
     try clear zO
     try clear zP
     try clear zS
     try clear zT
     try clear p2
     obtain ⟨x3_2, x23_2, rfl, rfl, HA, HK2, zD, HB⟩ := hrel
     cases gk with
     | zero => exact absurd HA.out (by simp [impl_ValidTxn.l0])
     | succ k2 =>
      have H := HA.out
      clear HA
      simp only [impl_ValidTxn.l0] at H
      by_cases c11 : x23_2 < (l0_1.length : Int)
      ·rw [if_pos c11] at H
       have c11b0 : decide (x23_2 < (l0_1.length : Int)) = true := decide_eq_true c11
       clear c11
       by_cases c12 : 0 ≤ x23_2
       ·rw [if_pos c12] at H
        have c12b0 : decide (0 ≤ x23_2) = true := decide_eq_true c12
        clear c12
        by_cases c13 : x23_2 < (l0_1.length : Int)
        ·rw [if_pos c13] at H
         have c13b0 : decide (x23_2 < (l0_1.length : Int)) = true := decide_eq_true c13
         clear c13
         replace H := Option.bind_eq_some_iff.mp H
         obtain ⟨t197, A140, H⟩ := H
         replace H : (if t197 = true then (if ((Op.bytesLess x3_2.toList (((rd_T55 l0_1 x23_2).f1.f0).toList)) = true) then (if (rd_T55 l0_1 x23_2).f0 = true then (if (!((((rd_T55 l0_1 x23_2).f1.f1).toList) == ([] : List UInt8)) || (!(((rd_T55 l0_1 x23_2).f1.f2) == 0) || (!(((rd_T55 l0_1 x23_2).f1.f3) == 0) || (!(((rd_T55 l0_1 x23_2).f1.f4) == 0) || (!(((rd_T55 l0_1 x23_2).f1.f5) == 0) || (!(((rd_T55 l0_1 x23_2).f1.f6) == 0))))))) = true then (some false) else (impl_ValidTxn.l0 k2 ((rd_T55 l0_1 x23_2).f1.f0) l0_1 (l0_1.length : Int) (wrap64 (x23_2 + 1)))) else (impl_ValidTxn.l0 k2 ((rd_T55 l0_1 x23_2).f1.f0) l0_1 (l0_1.length : Int) (wrap64 (x23_2 + 1)))) else (some false)) else (some false)) = some r := H
         have A14 := Aside0.mk A140
         clear A140
         by_cases c15 : t197 = true
         ·subst c15
          have H1 : (if ((Op.bytesLess x3_2.toList (((rd_T55 l0_1 x23_2).f1.f0).toList)) = true) then (if (rd_T55 l0_1 x23_2).f0 = true then (if (!((((rd_T55 l0_1 x23_2).f1.f1).toList) == ([] : List UInt8)) || (!(((rd_T55 l0_1 x23_2).f1.f2) == 0) || (!(((rd_T55 l0_1 x23_2).f1.f3) == 0) || (!(((rd_T55 l0_1 x23_2).f1.f4) == 0) || (!(((rd_T55 l0_1 x23_2).f1.f5) == 0) || (!(((rd_T55 l0_1 x23_2).f1.f6) == 0))))))) = true then (some false) else (impl_ValidTxn.l0 k2 ((rd_T55 l0_1 x23_2).f1.f0) l0_1 (l0_1.length : Int) (wrap64 (x23_2 + 1)))) else (impl_ValidTxn.l0 k2 ((rd_T55 l0_1 x23_2).f1.f0) l0_1 (l0_1.length : Int) (wrap64 (x23_2 + 1)))) else (some false)) = some r := by rw [if_pos rfl] at H; exact H
          clear H
          have H := H1
          clear H1
          by_cases c16 : ((Op.bytesLess x3_2.toList (((rd_T55 l0_1 x23_2).f1.f0).toList)) = true)
          ·rw [if_pos c16] at H
           have c16b0 : (Op.bytesLess x3_2.toList (((rd_T55 l0_1 x23_2).f1.f0).toList)) = true := c16
           clear c16
           obtain ⟨bq17, hbq17⟩ : ∃ b_ : Bool, b_ = ((rd_T55 l0_1 x23_2).f0) := ⟨_, rfl⟩
           replace H : (if bq17 = true then (if (!((((rd_T55 l0_1 x23_2).f1.f1).toList) == ([] : List UInt8)) || (!(((rd_T55 l0_1 x23_2).f1.f2) == 0) || (!(((rd_T55 l0_1 x23_2).f1.f3) == 0) || (!(((rd_T55 l0_1 x23_2).f1.f4) == 0) || (!(((rd_T55 l0_1 x23_2).f1.f5) == 0) || (!(((rd_T55 l0_1 x23_2).f1.f6) == 0))))))) = true then (some false) else (impl_ValidTxn.l0 k2 ((rd_T55 l0_1 x23_2).f1.f0) l0_1 (l0_1.length : Int) (wrap64 (x23_2 + 1)))) else (impl_ValidTxn.l0 k2 ((rd_T55 l0_1 x23_2).f1.f0) l0_1 (l0_1.length : Int) (wrap64 (x23_2 + 1)))) = some r := by rw [← hbq17] at H; exact H
           have Nbq17 := Aside0.mk hbq17
           clear hbq17
           by_cases c18 : bq17 = true
           ·subst c18
            have H1 : (if (!((((rd_T55 l0_1 x23_2).f1.f1).toList) == ([] : List UInt8)) || (!(((rd_T55 l0_1 x23_2).f1.f2) == 0) || (!(((rd_T55 l0_1 x23_2).f1.f3) == 0) || (!(((rd_T55 l0_1 x23_2).f1.f4) == 0) || (!(((rd_T55 l0_1 x23_2).f1.f5) == 0) || (!(((rd_T55 l0_1 x23_2).f1.f6) == 0))))))) = true then (some false) else (impl_ValidTxn.l0 k2 ((rd_T55 l0_1 x23_2).f1.f0) l0_1 (l0_1.length : Int) (wrap64 (x23_2 + 1)))) = some r := by rw [if_pos rfl] at H; exact H
            clear H
            have H := H1
            clear H1
            by_cases c19 : (!((((rd_T55 l0_1 x23_2).f1.f1).toList) == ([] : List UInt8)) || (!(((rd_T55 l0_1 x23_2).f1.f2) == 0) || (!(((rd_T55 l0_1 x23_2).f1.f3) == 0) || (!(((rd_T55 l0_1 x23_2).f1.f4) == 0) || (!(((rd_T55 l0_1 x23_2).f1.f5) == 0) || (!(((rd_T55 l0_1 x23_2).f1.f6) == 0))))))) = true
            ·rw [if_pos c19] at H
             have c19b0 : (!((((rd_T55 l0_1 x23_2).f1.f1).toList)).isEmpty || (!(((rd_T55 l0_1 x23_2).f1.f2) == 0) || (!(((rd_T55 l0_1 x23_2).f1.f3) == 0) || (!(((rd_T55 l0_1 x23_2).f1.f4) == 0) || (!(((rd_T55 l0_1 x23_2).f1.f5) == 0) || (!(((rd_T55 l0_1 x23_2).f1.f6) == 0))))))) = true := by simp only [← Go.Proofs.YtejecjjimggjeaaDoorH.nil_isEmpty]; exact c19
             clear c19
             obtain rfl := Option.some.inj H
             have p195 : 0 ≤ (x23_2 : Int) := of_decide_eq_true (by first | (with_reducible assumption) | assumption)
             have q195 : x23_2 < (l0_1.length : Int) := of_decide_eq_true (by first | (with_reducible assumption) | assumption)
             obtain ⟨ad195, e195, hx195_0, hx195_1, hx195_2, hx195_3, hx195_4, hx195_5, hx195_6, hx195_7⟩ := at_T55 HR0_1.out x23_2 p195 q195
             (try rw [← Nbq17.out] at hx195_0)
             cases e195
             replace hx195_0 := zb HB.out hx195_0
             replace hx195_1 := zb HB.out hx195_1
             replace hx195_2 := zb HB.out hx195_2
             replace hx195_3 := zb HB.out hx195_3
             replace hx195_4 := zb HB.out hx195_4
             replace hx195_5 := zb HB.out hx195_5
             replace hx195_6 := zb HB.out hx195_6
             replace hx195_7 := zb HB.out hx195_7
             replace p195 := eq_true p195
             replace q195 := eq_true q195
             go_wp2_with (first | ((with_reducible refine zw (N := 5) rfl ?_); (try (refine gate_guard (by rfl) ?_; dsimp only)); refine zx ?hg (N := 5) ?hd (cs := #[.bool false, .string (⟨#[]⟩ : ByteArray), .string (⟨#[]⟩ : ByteArray), .int .i64 0, .int .i64 0, .int .i64 0, .int .i64 0, .int .i64 0]) (t := 55) ?hr ?_; (case hd => rfl); (case hg => rfl); (case hr => first | (go_simp; done) | (go_simp; rfl)); intro zB hg w20 hbox hb; have n0_ := Aside0.mk (zt (g := zE) (o := .cells #[.int .i64 a0_0, .slice (some ad195) l0_1.length c0_1] 25 (0, 0)) (by (with_reducible repeat (first | refine zh ?_ _ | refine zj ?_ | refine zg ?_ _)); exact zD.out) hb); have n1_ := Aside0.mk (zm (by repeat (first | (with_reducible first | exact HB.out | apply zf | apply zc | apply ze | refine zk ?_ zF.out) | exact HB.out)) hb); have n2_ := Aside0.mk (hbox); have n3_ := Aside0.mk ((by rw [hg]; exact (zl (by repeat (first | (with_reducible first | exact HB.out | apply zf | apply zc | apply ze | refine zk ?_ zF.out) | exact HB.out))) : w.heap.size ≤ zB)); have n4_ := Aside0.mk ((by rw [hg]; exact (zl (by repeat (first | (with_reducible first | exact HB.out | apply zf | apply zc | apply ze | refine zk ?_ zF.out) | exact HB.out))) : w.heap.size ≤ zB)); have n5_ := Aside0.mk ((by rw [hg]; exact Nat.ne_of_lt (zy (g := zE) (o := .cells #[.int .i64 a0_0, .slice (some ad195) l0_1.length c0_1] 25 (0, 0)) (by (with_reducible repeat (first | refine zh ?_ _ | refine zj ?_ | refine zg ?_ _)); exact zD.out)) : zE ≠ zB)); have n6_ := Aside0.mk ((by rw [hg]; exact Nat.ne_of_gt (zy (g := zE) (o := .cells #[.int .i64 a0_0, .slice (some ad195) l0_1.length c0_1] 25 (0, 0)) (by (with_reducible repeat (first | refine zh ?_ _ | refine zj ?_ | refine zg ?_ _)); exact zD.out)) : zB ≠ zE)); clear zD; clear HB; have zD := n0_; have HB := n1_; have zA := n2_; have GW196 := n3_; have zH := n4_; have zC := n5_; have zG := n6_; clear n0_ n1_ n2_ n3_ n4_ n5_ n6_; clear hb hbox hg; have zMd := zG.out; have zNd := zC.out; have zY : w20.cell? ⟨zB, 0, none⟩ = some (.bool false) := (zi zA.out 0).trans rfl; have zZ : w20.cell? ⟨zB, 1, none⟩ = some (.string (⟨#[]⟩ : ByteArray)) := (zi zA.out 1).trans rfl; have zab : w20.cell? ⟨zB, 2, none⟩ = some (.string (⟨#[]⟩ : ByteArray)) := (zi zA.out 2).trans rfl; have zbb : w20.cell? ⟨zB, 3, none⟩ = some (.int .i64 0) := (zi zA.out 3).trans rfl; have zcb : w20.cell? ⟨zB, 4, none⟩ = some (.int .i64 0) := (zi zA.out 4).trans rfl; have zdb : w20.cell? ⟨zB, 5, none⟩ = some (.int .i64 0) := (zi zA.out 5).trans rfl; have zeb : w20.cell? ⟨zB, 6, none⟩ = some (.int .i64 0) := (zi zA.out 6).trans rfl; have zfb : w20.cell? ⟨zB, 7, none⟩ = some (.int .i64 0) := (zi zA.out 7).trans rfl; have zgb := zd zA.out 0; have zhb := zd zA.out 1; have zib := zd zA.out 2; have zjb := zd zA.out 3; have zkb := zd zA.out 4; have zlb := zd zA.out 5; have zmb := zd zA.out 6; have znb := zd zA.out 7) | ((with_reducible refine zn (f := 56) rfl ?_); refine zz (some 29) rfl rfl Tryd.func56 (by kernel_rfl) rfl #[.agg #[.string ((rd_T55 l0_1 x23_2).f1.f0), .string ((rd_T55 l0_1 x23_2).f1.f1), .int .i64 ((rd_T55 l0_1 x23_2).f1.f2), .int .i64 ((rd_T55 l0_1 x23_2).f1.f3), .int .i64 ((rd_T55 l0_1 x23_2).f1.f4), .int .i64 ((rd_T55 l0_1 x23_2).f1.f5), .int .i64 ((rd_T55 l0_1 x23_2).f1.f6)]] rfl (by (try simp only [List.map_toArray, List.map_cons, List.map_nil]); first | done | rfl | (simp only [List.length_drop, List.length_take]; rfl)) ?_; (with_reducible refine (impl_Node_valid.calls k2 ((rd_T55 l0_1 x23_2).f1.f0) ((rd_T55 l0_1 x23_2).f1.f1) ((rd_T55 l0_1 x23_2).f1.f2) ((rd_T55 l0_1 x23_2).f1.f3) ((rd_T55 l0_1 x23_2).f1.f4) ((rd_T55 l0_1 x23_2).f1.f5) ((rd_T55 l0_1 x23_2).f1.f6) true _ A14.out ?globMAX_).mono ?_); (case globMAX_ => exact Go.Proofs.YtejecjjimggjeaaDoorH.GFMAX.below HGMAX_.out (by repeat (first | (with_reducible first | exact HB.out | exact Below.refl _ _ | apply zf | apply zc | apply ze | refine zk ?_ (Aside0.out (by assumption))) | exact HB.out))); rintro e w23 ⟨rfl, hb⟩; refine ⟨_, rfl, ?_⟩; have n0_ := Aside0.mk (zt (g := zE) (o := .cells #[.int .i64 a0_0, .slice (some ad195) l0_1.length c0_1] 25 (0, 0)) (by (with_reducible repeat (first | refine zh ?_ _ | refine zj ?_ | refine zg ?_ _)); refine zo ?_ zC.out _; (with_reducible repeat (first | refine zh ?_ _ | refine zj ?_ | refine zg ?_ _)); refine zo ?_ zC.out _; (with_reducible repeat (first | refine zh ?_ _ | refine zj ?_ | refine zg ?_ _)); refine zo ?_ zC.out _; (with_reducible repeat (first | refine zh ?_ _ | refine zj ?_ | refine zg ?_ _)); refine zo ?_ zC.out _; (with_reducible repeat (first | refine zh ?_ _ | refine zj ?_ | refine zg ?_ _)); refine zo ?_ zC.out _; (with_reducible repeat (first | refine zh ?_ _ | refine zj ?_ | refine zg ?_ _)); refine zo ?_ zC.out _; (with_reducible repeat (first | refine zh ?_ _ | refine zj ?_ | refine zg ?_ _)); refine zo ?_ zC.out _; (with_reducible repeat (first | refine zh ?_ _ | refine zj ?_ | refine zg ?_ _)); refine zo ?_ zC.out _; (with_reducible repeat (first | refine zh ?_ _ | refine zj ?_ | refine zg ?_ _)); exact zD.out) hb); have n1_ := Aside0.mk (zt (g := zB) (o := .cells #[.bool true, .string ((rd_T55 l0_1 x23_2).f1.f0), .string ((rd_T55 l0_1 x23_2).f1.f1), .int .i64 ((rd_T55 l0_1 x23_2).f1.f2), .int .i64 ((rd_T55 l0_1 x23_2).f1.f3), .int .i64 ((rd_T55 l0_1 x23_2).f1.f4), .int .i64 ((rd_T55 l0_1 x23_2).f1.f5), .int .i64 ((rd_T55 l0_1 x23_2).f1.f6)] 55 (0, 0)) (by (with_reducible repeat (first | refine zh ?_ _ | refine zj ?_ | refine zg ?_ _)); refine zq (cs := #[.bool true, .string ((rd_T55 l0_1 x23_2).f1.f0), .string ((rd_T55 l0_1 x23_2).f1.f1), .int .i64 ((rd_T55 l0_1 x23_2).f1.f2), .int .i64 ((rd_T55 l0_1 x23_2).f1.f3), .int .i64 ((rd_T55 l0_1 x23_2).f1.f4), .int .i64 ((rd_T55 l0_1 x23_2).f1.f5), .int .i64 0]) ?_ 7 _ rfl; (with_reducible repeat (first | refine zh ?_ _ | refine zj ?_ | refine zg ?_ _)); refine zq (cs := #[.bool true, .string ((rd_T55 l0_1 x23_2).f1.f0), .string ((rd_T55 l0_1 x23_2).f1.f1), .int .i64 ((rd_T55 l0_1 x23_2).f1.f2), .int .i64 ((rd_T55 l0_1 x23_2).f1.f3), .int .i64 ((rd_T55 l0_1 x23_2).f1.f4), .int .i64 0, .int .i64 0]) ?_ 6 _ rfl; (with_reducible repeat (first | refine zh ?_ _ | refine zj ?_ | refine zg ?_ _)); refine zq (cs := #[.bool true, .string ((rd_T55 l0_1 x23_2).f1.f0), .string ((rd_T55 l0_1 x23_2).f1.f1), .int .i64 ((rd_T55 l0_1 x23_2).f1.f2), .int .i64 ((rd_T55 l0_1 x23_2).f1.f3), .int .i64 0, .int .i64 0, .int .i64 0]) ?_ 5 _ rfl; (with_reducible repeat (first | refine zh ?_ _ | refine zj ?_ | refine zg ?_ _)); refine zq (cs := #[.bool true, .string ((rd_T55 l0_1 x23_2).f1.f0), .string ((rd_T55 l0_1 x23_2).f1.f1), .int .i64 ((rd_T55 l0_1 x23_2).f1.f2), .int .i64 0, .int .i64 0, .int .i64 0, .int .i64 0]) ?_ 4 _ rfl; (with_reducible repeat (first | refine zh ?_ _ | refine zj ?_ | refine zg ?_ _)); refine zq (cs := #[.bool true, .string ((rd_T55 l0_1 x23_2).f1.f0), .string ((rd_T55 l0_1 x23_2).f1.f1), .int .i64 0, .int .i64 0, .int .i64 0, .int .i64 0, .int .i64 0]) ?_ 3 _ rfl; (with_reducible repeat (first | refine zh ?_ _ | refine zj ?_ | refine zg ?_ _)); refine zq (cs := #[.bool true, .string ((rd_T55 l0_1 x23_2).f1.f0), .string (⟨#[]⟩ : ByteArray), .int .i64 0, .int .i64 0, .int .i64 0, .int .i64 0, .int .i64 0]) ?_ 2 _ rfl; (with_reducible repeat (first | refine zh ?_ _ | refine zj ?_ | refine zg ?_ _)); refine zq (cs := #[.bool true, .string (⟨#[]⟩ : ByteArray), .string (⟨#[]⟩ : ByteArray), .int .i64 0, .int .i64 0, .int .i64 0, .int .i64 0, .int .i64 0]) ?_ 1 _ rfl; (with_reducible repeat (first | refine zh ?_ _ | refine zj ?_ | refine zg ?_ _)); refine zq (cs := #[.bool false, .string (⟨#[]⟩ : ByteArray), .string (⟨#[]⟩ : ByteArray), .int .i64 0, .int .i64 0, .int .i64 0, .int .i64 0, .int .i64 0]) ?_ 0 _ rfl; (with_reducible repeat (first | refine zh ?_ _ | refine zj ?_ | refine zg ?_ _)); exact zA.out) hb); have n2_ := Aside0.mk (zm (by repeat (first | (with_reducible first | exact HB.out | apply zf | apply zc | apply ze | refine zk ?_ zF.out | refine zk ?_ zH.out) | exact HB.out)) hb); clear zD; clear zA; clear HB; have zD := n0_; have zA := n1_; have HB := n2_; clear n0_ n1_ n2_; (try clear hb); (try clear hb2); (try clear hk); (try clear hi); have zob : w23.cell? ⟨zB, 0, none⟩ = some (.bool true) := (zi zA.out 0).trans rfl; have zpb : w23.cell? ⟨zB, 1, none⟩ = some (.string ((rd_T55 l0_1 x23_2).f1.f0)) := (zi zA.out 1).trans rfl; have zqb : w23.cell? ⟨zB, 2, none⟩ = some (.string ((rd_T55 l0_1 x23_2).f1.f1)) := (zi zA.out 2).trans rfl; have zrb : w23.cell? ⟨zB, 3, none⟩ = some (.int .i64 ((rd_T55 l0_1 x23_2).f1.f2)) := (zi zA.out 3).trans rfl; have zsb : w23.cell? ⟨zB, 4, none⟩ = some (.int .i64 ((rd_T55 l0_1 x23_2).f1.f3)) := (zi zA.out 4).trans rfl; have ztb : w23.cell? ⟨zB, 5, none⟩ = some (.int .i64 ((rd_T55 l0_1 x23_2).f1.f4)) := (zi zA.out 5).trans rfl; have zub : w23.cell? ⟨zB, 6, none⟩ = some (.int .i64 ((rd_T55 l0_1 x23_2).f1.f5)) := (zi zA.out 6).trans rfl; have zvb : w23.cell? ⟨zB, 7, none⟩ = some (.int .i64 ((rd_T55 l0_1 x23_2).f1.f6)) := (zi zA.out 7).trans rfl; have zwb := zd zA.out 0; have zxb := zd zA.out 1; have zyb := zd zA.out 2; have zzb := zd zA.out 3; have zAb := zd zA.out 4; have zBb := zd zA.out 5; have zCb := zd zA.out 6; have zDb := zd zA.out 7))
             go_ret
             exact ⟨by first | rfl | (simp [errW_none, errW_some] <;> rfl) | (simp [*, errW_none, errW_some] <;> rfl), by repeat (first | (with_reducible first | exact HB.out | apply zf | apply zc | apply ze | refine zk ?_ zF.out | refine zk ?_ zH.out) | exact HB.out)⟩
            ·rw [if_neg c19] at H
             have c19b0 : (!((((rd_T55 l0_1 x23_2).f1.f1).toList)).isEmpty || (!(((rd_T55 l0_1 x23_2).f1.f2) == 0) || (!(((rd_T55 l0_1 x23_2).f1.f3) == 0) || (!(((rd_T55 l0_1 x23_2).f1.f4) == 0) || (!(((rd_T55 l0_1 x23_2).f1.f5) == 0) || (!(((rd_T55 l0_1 x23_2).f1.f6) == 0))))))) = false := by simp only [← Go.Proofs.YtejecjjimggjeaaDoorH.nil_isEmpty]; simpa using c19
             clear c19
             have H' := Aside0.mk H
             clear H
             have p195 : 0 ≤ (x23_2 : Int) := of_decide_eq_true (by first | (with_reducible assumption) | assumption)
             have q195 : x23_2 < (l0_1.length : Int) := of_decide_eq_true (by first | (with_reducible assumption) | assumption)
             obtain ⟨ad195, e195, hx195_0, hx195_1, hx195_2, hx195_3, hx195_4, hx195_5, hx195_6, hx195_7⟩ := at_T55 HR0_1.out x23_2 p195 q195
             (try rw [← Nbq17.out] at hx195_0)
             cases e195
             replace hx195_0 := zb HB.out hx195_0
             replace hx195_1 := zb HB.out hx195_1
             replace hx195_2 := zb HB.out hx195_2
             replace hx195_3 := zb HB.out hx195_3
             replace hx195_4 := zb HB.out hx195_4
             replace hx195_5 := zb HB.out hx195_5
             replace hx195_6 := zb HB.out hx195_6
             replace hx195_7 := zb HB.out hx195_7
             replace p195 := eq_true p195
             replace q195 := eq_true q195
             go_wp2_with (first | ((with_reducible refine zw (N := 5) rfl ?_); (try (refine gate_guard (by rfl) ?_; dsimp only)); refine zx ?hg (N := 5) ?hd (cs := #[.bool false, .string (⟨#[]⟩ : ByteArray), .string (⟨#[]⟩ : ByteArray), .int .i64 0, .int .i64 0, .int .i64 0, .int .i64 0, .int .i64 0]) (t := 55) ?hr ?_; (case hd => rfl); (case hg => rfl); (case hr => first | (go_simp; done) | (go_simp; rfl)); intro zB hg w25 hbox hb; have n0_ := Aside0.mk (zt (g := zE) (o := .cells #[.int .i64 a0_0, .slice (some ad195) l0_1.length c0_1] 25 (0, 0)) (by (with_reducible repeat (first | refine zh ?_ _ | refine zj ?_ | refine zg ?_ _)); exact zD.out) hb); have n1_ := Aside0.mk (zm (by repeat (first | (with_reducible first | exact HB.out | apply zf | apply zc | apply ze | refine zk ?_ zF.out) | exact HB.out)) hb); have n2_ := Aside0.mk (hbox); have n3_ := Aside0.mk ((by rw [hg]; exact (zl (by repeat (first | (with_reducible first | exact HB.out | apply zf | apply zc | apply ze | refine zk ?_ zF.out) | exact HB.out))) : w.heap.size ≤ zB)); have n4_ := Aside0.mk ((by rw [hg]; exact (zl (by repeat (first | (with_reducible first | exact HB.out | apply zf | apply zc | apply ze | refine zk ?_ zF.out) | exact HB.out))) : w.heap.size ≤ zB)); have n5_ := Aside0.mk ((by rw [hg]; exact Nat.ne_of_lt (zy (g := zE) (o := .cells #[.int .i64 a0_0, .slice (some ad195) l0_1.length c0_1] 25 (0, 0)) (by (with_reducible repeat (first | refine zh ?_ _ | refine zj ?_ | refine zg ?_ _)); exact zD.out)) : zE ≠ zB)); have n6_ := Aside0.mk ((by rw [hg]; exact Nat.ne_of_gt (zy (g := zE) (o := .cells #[.int .i64 a0_0, .slice (some ad195) l0_1.length c0_1] 25 (0, 0)) (by (with_reducible repeat (first | refine zh ?_ _ | refine zj ?_ | refine zg ?_ _)); exact zD.out)) : zB ≠ zE)); clear zD; clear HB; have zD := n0_; have HB := n1_; have zA := n2_; have GW196 := n3_; have zH := n4_; have zC := n5_; have zG := n6_; clear n0_ n1_ n2_ n3_ n4_ n5_ n6_; clear hb hbox hg; have zOd := zG.out; have zPd := zC.out; have zEb : w25.cell? ⟨zB, 0, none⟩ = some (.bool false) := (zi zA.out 0).trans rfl; have zFb : w25.cell? ⟨zB, 1, none⟩ = some (.string (⟨#[]⟩ : ByteArray)) := (zi zA.out 1).trans rfl; have zGb : w25.cell? ⟨zB, 2, none⟩ = some (.string (⟨#[]⟩ : ByteArray)) := (zi zA.out 2).trans rfl; have zHb : w25.cell? ⟨zB, 3, none⟩ = some (.int .i64 0) := (zi zA.out 3).trans rfl; have zIb : w25.cell? ⟨zB, 4, none⟩ = some (.int .i64 0) := (zi zA.out 4).trans rfl; have zJb : w25.cell? ⟨zB, 5, none⟩ = some (.int .i64 0) := (zi zA.out 5).trans rfl; have zKb : w25.cell? ⟨zB, 6, none⟩ = some (.int .i64 0) := (zi zA.out 6).trans rfl; have zLb : w25.cell? ⟨zB, 7, none⟩ = some (.int .i64 0) := (zi zA.out 7).trans rfl; have zMb := zd zA.out 0; have zNb := zd zA.out 1; have zOb := zd zA.out 2; have zPb := zd zA.out 3; have zQb := zd zA.out 4; have zRb := zd zA.out 5; have zSb := zd zA.out 6; have zTb := zd zA.out 7) | ((with_reducible refine zn (f := 56) rfl ?_); refine zz (some 29) rfl rfl Tryd.func56 (by kernel_rfl) rfl #[.agg #[.string ((rd_T55 l0_1 x23_2).f1.f0), .string ((rd_T55 l0_1 x23_2).f1.f1), .int .i64 ((rd_T55 l0_1 x23_2).f1.f2), .int .i64 ((rd_T55 l0_1 x23_2).f1.f3), .int .i64 ((rd_T55 l0_1 x23_2).f1.f4), .int .i64 ((rd_T55 l0_1 x23_2).f1.f5), .int .i64 ((rd_T55 l0_1 x23_2).f1.f6)]] rfl (by (try simp only [List.map_toArray, List.map_cons, List.map_nil]); first | done | rfl | (simp only [List.length_drop, List.length_take]; rfl)) ?_; (with_reducible refine (impl_Node_valid.calls k2 ((rd_T55 l0_1 x23_2).f1.f0) ((rd_T55 l0_1 x23_2).f1.f1) ((rd_T55 l0_1 x23_2).f1.f2) ((rd_T55 l0_1 x23_2).f1.f3) ((rd_T55 l0_1 x23_2).f1.f4) ((rd_T55 l0_1 x23_2).f1.f5) ((rd_T55 l0_1 x23_2).f1.f6) true _ A14.out ?globMAX_).mono ?_); (case globMAX_ => exact Go.Proofs.YtejecjjimggjeaaDoorH.GFMAX.below HGMAX_.out (by repeat (first | (with_reducible first | exact HB.out | exact Below.refl _ _ | apply zf | apply zc | apply ze | refine zk ?_ (Aside0.out (by assumption))) | exact HB.out))); rintro e w28 ⟨rfl, hb⟩; refine ⟨_, rfl, ?_⟩; have n0_ := Aside0.mk (zt (g := zE) (o := .cells #[.int .i64 a0_0, .slice (some ad195) l0_1.length c0_1] 25 (0, 0)) (by (with_reducible repeat (first | refine zh ?_ _ | refine zj ?_ | refine zg ?_ _)); refine zo ?_ zC.out _; (with_reducible repeat (first | refine zh ?_ _ | refine zj ?_ | refine zg ?_ _)); refine zo ?_ zC.out _; (with_reducible repeat (first | refine zh ?_ _ | refine zj ?_ | refine zg ?_ _)); refine zo ?_ zC.out _; (with_reducible repeat (first | refine zh ?_ _ | refine zj ?_ | refine zg ?_ _)); refine zo ?_ zC.out _; (with_reducible repeat (first | refine zh ?_ _ | refine zj ?_ | refine zg ?_ _)); refine zo ?_ zC.out _; (with_reducible repeat (first | refine zh ?_ _ | refine zj ?_ | refine zg ?_ _)); refine zo ?_ zC.out _; (with_reducible repeat (first | refine zh ?_ _ | refine zj ?_ | refine zg ?_ _)); refine zo ?_ zC.out _; (with_reducible repeat (first | refine zh ?_ _ | refine zj ?_ | refine zg ?_ _)); refine zo ?_ zC.out _; (with_reducible repeat (first | refine zh ?_ _ | refine zj ?_ | refine zg ?_ _)); exact zD.out) hb); have n1_ := Aside0.mk (zt (g := zB) (o := .cells #[.bool true, .string ((rd_T55 l0_1 x23_2).f1.f0), .string ((rd_T55 l0_1 x23_2).f1.f1), .int .i64 ((rd_T55 l0_1 x23_2).f1.f2), .int .i64 ((rd_T55 l0_1 x23_2).f1.f3), .int .i64 ((rd_T55 l0_1 x23_2).f1.f4), .int .i64 ((rd_T55 l0_1 x23_2).f1.f5), .int .i64 ((rd_T55 l0_1 x23_2).f1.f6)] 55 (0, 0)) (by (with_reducible repeat (first | refine zh ?_ _ | refine zj ?_ | refine zg ?_ _)); refine zq (cs := #[.bool true, .string ((rd_T55 l0_1 x23_2).f1.f0), .string ((rd_T55 l0_1 x23_2).f1.f1), .int .i64 ((rd_T55 l0_1 x23_2).f1.f2), .int .i64 ((rd_T55 l0_1 x23_2).f1.f3), .int .i64 ((rd_T55 l0_1 x23_2).f1.f4), .int .i64 ((rd_T55 l0_1 x23_2).f1.f5), .int .i64 0]) ?_ 7 _ rfl; (with_reducible repeat (first | refine zh ?_ _ | refine zj ?_ | refine zg ?_ _)); refine zq (cs := #[.bool true, .string ((rd_T55 l0_1 x23_2).f1.f0), .string ((rd_T55 l0_1 x23_2).f1.f1), .int .i64 ((rd_T55 l0_1 x23_2).f1.f2), .int .i64 ((rd_T55 l0_1 x23_2).f1.f3), .int .i64 ((rd_T55 l0_1 x23_2).f1.f4), .int .i64 0, .int .i64 0]) ?_ 6 _ rfl; (with_reducible repeat (first | refine zh ?_ _ | refine zj ?_ | refine zg ?_ _)); refine zq (cs := #[.bool true, .string ((rd_T55 l0_1 x23_2).f1.f0), .string ((rd_T55 l0_1 x23_2).f1.f1), .int .i64 ((rd_T55 l0_1 x23_2).f1.f2), .int .i64 ((rd_T55 l0_1 x23_2).f1.f3), .int .i64 0, .int .i64 0, .int .i64 0]) ?_ 5 _ rfl; (with_reducible repeat (first | refine zh ?_ _ | refine zj ?_ | refine zg ?_ _)); refine zq (cs := #[.bool true, .string ((rd_T55 l0_1 x23_2).f1.f0), .string ((rd_T55 l0_1 x23_2).f1.f1), .int .i64 ((rd_T55 l0_1 x23_2).f1.f2), .int .i64 0, .int .i64 0, .int .i64 0, .int .i64 0]) ?_ 4 _ rfl; (with_reducible repeat (first | refine zh ?_ _ | refine zj ?_ | refine zg ?_ _)); refine zq (cs := #[.bool true, .string ((rd_T55 l0_1 x23_2).f1.f0), .string ((rd_T55 l0_1 x23_2).f1.f1), .int .i64 0, .int .i64 0, .int .i64 0, .int .i64 0, .int .i64 0]) ?_ 3 _ rfl; (with_reducible repeat (first | refine zh ?_ _ | refine zj ?_ | refine zg ?_ _)); refine zq (cs := #[.bool true, .string ((rd_T55 l0_1 x23_2).f1.f0), .string (⟨#[]⟩ : ByteArray), .int .i64 0, .int .i64 0, .int .i64 0, .int .i64 0, .int .i64 0]) ?_ 2 _ rfl; (with_reducible repeat (first | refine zh ?_ _ | refine zj ?_ | refine zg ?_ _)); refine zq (cs := #[.bool true, .string (⟨#[]⟩ : ByteArray), .string (⟨#[]⟩ : ByteArray), .int .i64 0, .int .i64 0, .int .i64 0, .int .i64 0, .int .i64 0]) ?_ 1 _ rfl; (with_reducible repeat (first | refine zh ?_ _ | refine zj ?_ | refine zg ?_ _)); refine zq (cs := #[.bool false, .string (⟨#[]⟩ : ByteArray), .string (⟨#[]⟩ : ByteArray), .int .i64 0, .int .i64 0, .int .i64 0, .int .i64 0, .int .i64 0]) ?_ 0 _ rfl; (with_reducible repeat (first | refine zh ?_ _ | refine zj ?_ | refine zg ?_ _)); exact zA.out) hb); have n2_ := Aside0.mk (zm (by repeat (first | (with_reducible first | exact HB.out | apply zf | apply zc | apply ze | refine zk ?_ zF.out | refine zk ?_ zH.out) | exact HB.out)) hb); clear zD; clear zA; clear HB; have zD := n0_; have zA := n1_; have HB := n2_; clear n0_ n1_ n2_; (try clear hb); (try clear hb2); (try clear hk); (try clear hi); have zUb : w28.cell? ⟨zB, 0, none⟩ = some (.bool true) := (zi zA.out 0).trans rfl; have zVb : w28.cell? ⟨zB, 1, none⟩ = some (.string ((rd_T55 l0_1 x23_2).f1.f0)) := (zi zA.out 1).trans rfl; have zWb : w28.cell? ⟨zB, 2, none⟩ = some (.string ((rd_T55 l0_1 x23_2).f1.f1)) := (zi zA.out 2).trans rfl; have zXb : w28.cell? ⟨zB, 3, none⟩ = some (.int .i64 ((rd_T55 l0_1 x23_2).f1.f2)) := (zi zA.out 3).trans rfl; have zYb : w28.cell? ⟨zB, 4, none⟩ = some (.int .i64 ((rd_T55 l0_1 x23_2).f1.f3)) := (zi zA.out 4).trans rfl; have zZb : w28.cell? ⟨zB, 5, none⟩ = some (.int .i64 ((rd_T55 l0_1 x23_2).f1.f4)) := (zi zA.out 5).trans rfl; have zac : w28.cell? ⟨zB, 6, none⟩ = some (.int .i64 ((rd_T55 l0_1 x23_2).f1.f5)) := (zi zA.out 6).trans rfl; have zbc : w28.cell? ⟨zB, 7, none⟩ = some (.int .i64 ((rd_T55 l0_1 x23_2).f1.f6)) := (zi zA.out 7).trans rfl; have zcc := zd zA.out 0; have zdc := zd zA.out 1; have zec := zd zA.out 2; have zfc := zd zA.out 3; have zgc := zd zA.out 4; have zhc := zd zA.out 5; have zic := zd zA.out 6; have zjc := zd zA.out 7))
             go_roundg k2
             case measure => have := HJ1.out; have := HK2.out; omega
             case rel => exact ⟨((rd_T55 l0_1 x23_2).f1.f0), (wrap64 (x23_2 + 1)), (by first | rfl | (simp; done) | (simp [*]; done)), (by first | rfl | (simp; done) | (simp [*]; done)), H', ⟨by have := HJ1.out; have := HK2.out; omega⟩, ⟨by (with_reducible repeat (first | refine zh ?_ _ | refine zj ?_ | refine zg ?_ _)); exact zD.out⟩, ⟨by repeat (first | (with_reducible first | exact HB.out | apply zf | apply zc | apply ze | refine zk ?_ zF.out | refine zk ?_ zH.out) | exact HB.out)⟩⟩
           ·replace c18 := Bool.eq_false_iff.mpr c18
            subst c18
            have H1 : (impl_ValidTxn.l0 k2 ((rd_T55 l0_1 x23_2).f1.f0) l0_1 (l0_1.length : Int) (wrap64 (x23_2 + 1))) = some r := by rw [if_neg (show ¬ (false = true) by decide)] at H; exact H
            clear H
            have H := H1
            clear H1
            have H' := Aside0.mk H
            clear H
            have p195 : 0 ≤ (x23_2 : Int) := of_decide_eq_true (by first | (with_reducible assumption) | assumption)
            have q195 : x23_2 < (l0_1.length : Int) := of_decide_eq_true (by first | (with_reducible assumption) | assumption)
            obtain ⟨ad195, e195, hx195_0, hx195_1, hx195_2, hx195_3, hx195_4, hx195_5, hx195_6, hx195_7⟩ := at_T55 HR0_1.out x23_2 p195 q195
            (try rw [← Nbq17.out] at hx195_0)
            cases e195
            replace hx195_0 := zb HB.out hx195_0
            replace hx195_1 := zb HB.out hx195_1
            replace hx195_2 := zb HB.out hx195_2
            replace hx195_3 := zb HB.out hx195_3
            replace hx195_4 := zb HB.out hx195_4
            replace hx195_5 := zb HB.out hx195_5
            replace hx195_6 := zb HB.out hx195_6
            replace hx195_7 := zb HB.out hx195_7
            replace p195 := eq_true p195
            replace q195 := eq_true q195
            go_wp2_with (first | ((with_reducible refine zw (N := 5) rfl ?_); (try (refine gate_guard (by rfl) ?_; dsimp only)); refine zx ?hg (N := 5) ?hd (cs := #[.bool false, .string (⟨#[]⟩ : ByteArray), .string (⟨#[]⟩ : ByteArray), .int .i64 0, .int .i64 0, .int .i64 0, .int .i64 0, .int .i64 0]) (t := 55) ?hr ?_; (case hd => rfl); (case hg => rfl); (case hr => first | (go_simp; done) | (go_simp; rfl)); intro zB hg w30 hbox hb; have n0_ := Aside0.mk (zt (g := zE) (o := .cells #[.int .i64 a0_0, .slice (some ad195) l0_1.length c0_1] 25 (0, 0)) (by (with_reducible repeat (first | refine zh ?_ _ | refine zj ?_ | refine zg ?_ _)); exact zD.out) hb); have n1_ := Aside0.mk (zm (by repeat (first | (with_reducible first | exact HB.out | apply zf | apply zc | apply ze | refine zk ?_ zF.out) | exact HB.out)) hb); have n2_ := Aside0.mk (hbox); have n3_ := Aside0.mk ((by rw [hg]; exact (zl (by repeat (first | (with_reducible first | exact HB.out | apply zf | apply zc | apply ze | refine zk ?_ zF.out) | exact HB.out))) : w.heap.size ≤ zB)); have n4_ := Aside0.mk ((by rw [hg]; exact (zl (by repeat (first | (with_reducible first | exact HB.out | apply zf | apply zc | apply ze | refine zk ?_ zF.out) | exact HB.out))) : w.heap.size ≤ zB)); have n5_ := Aside0.mk ((by rw [hg]; exact Nat.ne_of_lt (zy (g := zE) (o := .cells #[.int .i64 a0_0, .slice (some ad195) l0_1.length c0_1] 25 (0, 0)) (by (with_reducible repeat (first | refine zh ?_ _ | refine zj ?_ | refine zg ?_ _)); exact zD.out)) : zE ≠ zB)); have n6_ := Aside0.mk ((by rw [hg]; exact Nat.ne_of_gt (zy (g := zE) (o := .cells #[.int .i64 a0_0, .slice (some ad195) l0_1.length c0_1] 25 (0, 0)) (by (with_reducible repeat (first | refine zh ?_ _ | refine zj ?_ | refine zg ?_ _)); exact zD.out)) : zB ≠ zE)); clear zD; clear HB; have zD := n0_; have HB := n1_; have zA := n2_; have GW196 := n3_; have zH := n4_; have zC := n5_; have zG := n6_; clear n0_ n1_ n2_ n3_ n4_ n5_ n6_; clear hb hbox hg; have zQd := zG.out; have zRd := zC.out; have zkc : w30.cell? ⟨zB, 0, none⟩ = some (.bool false) := (zi zA.out 0).trans rfl; have zlc : w30.cell? ⟨zB, 1, none⟩ = some (.string (⟨#[]⟩ : ByteArray)) := (zi zA.out 1).trans rfl; have zmc : w30.cell? ⟨zB, 2, none⟩ = some (.string (⟨#[]⟩ : ByteArray)) := (zi zA.out 2).trans rfl; have znc : w30.cell? ⟨zB, 3, none⟩ = some (.int .i64 0) := (zi zA.out 3).trans rfl; have zoc : w30.cell? ⟨zB, 4, none⟩ = some (.int .i64 0) := (zi zA.out 4).trans rfl; have zpc : w30.cell? ⟨zB, 5, none⟩ = some (.int .i64 0) := (zi zA.out 5).trans rfl; have zqc : w30.cell? ⟨zB, 6, none⟩ = some (.int .i64 0) := (zi zA.out 6).trans rfl; have zrc : w30.cell? ⟨zB, 7, none⟩ = some (.int .i64 0) := (zi zA.out 7).trans rfl; have zsc := zd zA.out 0; have ztc := zd zA.out 1; have zuc := zd zA.out 2; have zvc := zd zA.out 3; have zwc := zd zA.out 4; have zxc := zd zA.out 5; have zyc := zd zA.out 6; have zzc := zd zA.out 7) | ((with_reducible refine zn (f := 56) rfl ?_); refine zz (some 29) rfl rfl Tryd.func56 (by kernel_rfl) rfl #[.agg #[.string ((rd_T55 l0_1 x23_2).f1.f0), .string ((rd_T55 l0_1 x23_2).f1.f1), .int .i64 ((rd_T55 l0_1 x23_2).f1.f2), .int .i64 ((rd_T55 l0_1 x23_2).f1.f3), .int .i64 ((rd_T55 l0_1 x23_2).f1.f4), .int .i64 ((rd_T55 l0_1 x23_2).f1.f5), .int .i64 ((rd_T55 l0_1 x23_2).f1.f6)]] rfl (by (try simp only [List.map_toArray, List.map_cons, List.map_nil]); first | done | rfl | (simp only [List.length_drop, List.length_take]; rfl)) ?_; (with_reducible refine (impl_Node_valid.calls k2 ((rd_T55 l0_1 x23_2).f1.f0) ((rd_T55 l0_1 x23_2).f1.f1) ((rd_T55 l0_1 x23_2).f1.f2) ((rd_T55 l0_1 x23_2).f1.f3) ((rd_T55 l0_1 x23_2).f1.f4) ((rd_T55 l0_1 x23_2).f1.f5) ((rd_T55 l0_1 x23_2).f1.f6) true _ A14.out ?globMAX_).mono ?_); (case globMAX_ => exact Go.Proofs.YtejecjjimggjeaaDoorH.GFMAX.below HGMAX_.out (by repeat (first | (with_reducible first | exact HB.out | exact Below.refl _ _ | apply zf | apply zc | apply ze | refine zk ?_ (Aside0.out (by assumption))) | exact HB.out))); rintro e w33 ⟨rfl, hb⟩; refine ⟨_, rfl, ?_⟩; have n0_ := Aside0.mk (zt (g := zE) (o := .cells #[.int .i64 a0_0, .slice (some ad195) l0_1.length c0_1] 25 (0, 0)) (by (with_reducible repeat (first | refine zh ?_ _ | refine zj ?_ | refine zg ?_ _)); refine zo ?_ zC.out _; (with_reducible repeat (first | refine zh ?_ _ | refine zj ?_ | refine zg ?_ _)); refine zo ?_ zC.out _; (with_reducible repeat (first | refine zh ?_ _ | refine zj ?_ | refine zg ?_ _)); refine zo ?_ zC.out _; (with_reducible repeat (first | refine zh ?_ _ | refine zj ?_ | refine zg ?_ _)); refine zo ?_ zC.out _; (with_reducible repeat (first | refine zh ?_ _ | refine zj ?_ | refine zg ?_ _)); refine zo ?_ zC.out _; (with_reducible repeat (first | refine zh ?_ _ | refine zj ?_ | refine zg ?_ _)); refine zo ?_ zC.out _; (with_reducible repeat (first | refine zh ?_ _ | refine zj ?_ | refine zg ?_ _)); refine zo ?_ zC.out _; (with_reducible repeat (first | refine zh ?_ _ | refine zj ?_ | refine zg ?_ _)); refine zo ?_ zC.out _; (with_reducible repeat (first | refine zh ?_ _ | refine zj ?_ | refine zg ?_ _)); exact zD.out) hb); have n1_ := Aside0.mk (zt (g := zB) (o := .cells #[.bool false, .string ((rd_T55 l0_1 x23_2).f1.f0), .string ((rd_T55 l0_1 x23_2).f1.f1), .int .i64 ((rd_T55 l0_1 x23_2).f1.f2), .int .i64 ((rd_T55 l0_1 x23_2).f1.f3), .int .i64 ((rd_T55 l0_1 x23_2).f1.f4), .int .i64 ((rd_T55 l0_1 x23_2).f1.f5), .int .i64 ((rd_T55 l0_1 x23_2).f1.f6)] 55 (0, 0)) (by (with_reducible repeat (first | refine zh ?_ _ | refine zj ?_ | refine zg ?_ _)); refine zq (cs := #[.bool false, .string ((rd_T55 l0_1 x23_2).f1.f0), .string ((rd_T55 l0_1 x23_2).f1.f1), .int .i64 ((rd_T55 l0_1 x23_2).f1.f2), .int .i64 ((rd_T55 l0_1 x23_2).f1.f3), .int .i64 ((rd_T55 l0_1 x23_2).f1.f4), .int .i64 ((rd_T55 l0_1 x23_2).f1.f5), .int .i64 0]) ?_ 7 _ rfl; (with_reducible repeat (first | refine zh ?_ _ | refine zj ?_ | refine zg ?_ _)); refine zq (cs := #[.bool false, .string ((rd_T55 l0_1 x23_2).f1.f0), .string ((rd_T55 l0_1 x23_2).f1.f1), .int .i64 ((rd_T55 l0_1 x23_2).f1.f2), .int .i64 ((rd_T55 l0_1 x23_2).f1.f3), .int .i64 ((rd_T55 l0_1 x23_2).f1.f4), .int .i64 0, .int .i64 0]) ?_ 6 _ rfl; (with_reducible repeat (first | refine zh ?_ _ | refine zj ?_ | refine zg ?_ _)); refine zq (cs := #[.bool false, .string ((rd_T55 l0_1 x23_2).f1.f0), .string ((rd_T55 l0_1 x23_2).f1.f1), .int .i64 ((rd_T55 l0_1 x23_2).f1.f2), .int .i64 ((rd_T55 l0_1 x23_2).f1.f3), .int .i64 0, .int .i64 0, .int .i64 0]) ?_ 5 _ rfl; (with_reducible repeat (first | refine zh ?_ _ | refine zj ?_ | refine zg ?_ _)); refine zq (cs := #[.bool false, .string ((rd_T55 l0_1 x23_2).f1.f0), .string ((rd_T55 l0_1 x23_2).f1.f1), .int .i64 ((rd_T55 l0_1 x23_2).f1.f2), .int .i64 0, .int .i64 0, .int .i64 0, .int .i64 0]) ?_ 4 _ rfl; (with_reducible repeat (first | refine zh ?_ _ | refine zj ?_ | refine zg ?_ _)); refine zq (cs := #[.bool false, .string ((rd_T55 l0_1 x23_2).f1.f0), .string ((rd_T55 l0_1 x23_2).f1.f1), .int .i64 0, .int .i64 0, .int .i64 0, .int .i64 0, .int .i64 0]) ?_ 3 _ rfl; (with_reducible repeat (first | refine zh ?_ _ | refine zj ?_ | refine zg ?_ _)); refine zq (cs := #[.bool false, .string ((rd_T55 l0_1 x23_2).f1.f0), .string (⟨#[]⟩ : ByteArray), .int .i64 0, .int .i64 0, .int .i64 0, .int .i64 0, .int .i64 0]) ?_ 2 _ rfl; (with_reducible repeat (first | refine zh ?_ _ | refine zj ?_ | refine zg ?_ _)); refine zq (cs := #[.bool false, .string (⟨#[]⟩ : ByteArray), .string (⟨#[]⟩ : ByteArray), .int .i64 0, .int .i64 0, .int .i64 0, .int .i64 0, .int .i64 0]) ?_ 1 _ rfl; (with_reducible repeat (first | refine zh ?_ _ | refine zj ?_ | refine zg ?_ _)); refine zq (cs := #[.bool false, .string (⟨#[]⟩ : ByteArray), .string (⟨#[]⟩ : ByteArray), .int .i64 0, .int .i64 0, .int .i64 0, .int .i64 0, .int .i64 0]) ?_ 0 _ rfl; (with_reducible repeat (first | refine zh ?_ _ | refine zj ?_ | refine zg ?_ _)); exact zA.out) hb); have n2_ := Aside0.mk (zm (by repeat (first | (with_reducible first | exact HB.out | apply zf | apply zc | apply ze | refine zk ?_ zF.out | refine zk ?_ zH.out) | exact HB.out)) hb); clear zD; clear zA; clear HB; have zD := n0_; have zA := n1_; have HB := n2_; clear n0_ n1_ n2_; (try clear hb); (try clear hb2); (try clear hk); (try clear hi); have zAc : w33.cell? ⟨zB, 0, none⟩ = some (.bool false) := (zi zA.out 0).trans rfl; have zBc : w33.cell? ⟨zB, 1, none⟩ = some (.string ((rd_T55 l0_1 x23_2).f1.f0)) := (zi zA.out 1).trans rfl; have zCc : w33.cell? ⟨zB, 2, none⟩ = some (.string ((rd_T55 l0_1 x23_2).f1.f1)) := (zi zA.out 2).trans rfl; have zDc : w33.cell? ⟨zB, 3, none⟩ = some (.int .i64 ((rd_T55 l0_1 x23_2).f1.f2)) := (zi zA.out 3).trans rfl; have zEc : w33.cell? ⟨zB, 4, none⟩ = some (.int .i64 ((rd_T55 l0_1 x23_2).f1.f3)) := (zi zA.out 4).trans rfl; have zFc : w33.cell? ⟨zB, 5, none⟩ = some (.int .i64 ((rd_T55 l0_1 x23_2).f1.f4)) := (zi zA.out 5).trans rfl; have zGc : w33.cell? ⟨zB, 6, none⟩ = some (.int .i64 ((rd_T55 l0_1 x23_2).f1.f5)) := (zi zA.out 6).trans rfl; have zHc : w33.cell? ⟨zB, 7, none⟩ = some (.int .i64 ((rd_T55 l0_1 x23_2).f1.f6)) := (zi zA.out 7).trans rfl; have zIc := zd zA.out 0; have zJc := zd zA.out 1; have zKc := zd zA.out 2; have zLc := zd zA.out 3; have zMc := zd zA.out 4; have zNc := zd zA.out 5; have zOc := zd zA.out 6; have zPc := zd zA.out 7))
            go_roundg k2
            case measure => have := HJ1.out; have := HK2.out; omega
            case rel => exact ⟨((rd_T55 l0_1 x23_2).f1.f0), (wrap64 (x23_2 + 1)), (by first | rfl | (simp; done) | (simp [*]; done)), (by first | rfl | (simp; done) | (simp [*]; done)), H', ⟨by have := HJ1.out; have := HK2.out; omega⟩, ⟨by (with_reducible repeat (first | refine zh ?_ _ | refine zj ?_ | refine zg ?_ _)); exact zD.out⟩, ⟨by repeat (first | (with_reducible first | exact HB.out | apply zf | apply zc | apply ze | refine zk ?_ zF.out | refine zk ?_ zH.out) | exact HB.out)⟩⟩
          ·rw [if_neg c16] at H
           have c16b0 : (Op.bytesLess x3_2.toList (((rd_T55 l0_1 x23_2).f1.f0).toList)) = false := by simpa using c16
           clear c16
           obtain rfl := Option.some.inj H
           have p195 : 0 ≤ (x23_2 : Int) := of_decide_eq_true (by first | (with_reducible assumption) | assumption)
           have q195 : x23_2 < (l0_1.length : Int) := of_decide_eq_true (by first | (with_reducible assumption) | assumption)
           obtain ⟨ad195, e195, hx195_0, hx195_1, hx195_2, hx195_3, hx195_4, hx195_5, hx195_6, hx195_7⟩ := at_T55 HR0_1.out x23_2 p195 q195
           cases e195
           replace hx195_0 := zb HB.out hx195_0
           replace hx195_1 := zb HB.out hx195_1
           replace hx195_2 := zb HB.out hx195_2
           replace hx195_3 := zb HB.out hx195_3
           replace hx195_4 := zb HB.out hx195_4
           replace hx195_5 := zb HB.out hx195_5
           replace hx195_6 := zb HB.out hx195_6
           replace hx195_7 := zb HB.out hx195_7
           replace p195 := eq_true p195
           replace q195 := eq_true q195
           go_wp2_with (first | ((with_reducible refine zw (N := 5) rfl ?_); (try (refine gate_guard (by rfl) ?_; dsimp only)); refine zx ?hg (N := 5) ?hd (cs := #[.bool false, .string (⟨#[]⟩ : ByteArray), .string (⟨#[]⟩ : ByteArray), .int .i64 0, .int .i64 0, .int .i64 0, .int .i64 0, .int .i64 0]) (t := 55) ?hr ?_; (case hd => rfl); (case hg => rfl); (case hr => first | (go_simp; done) | (go_simp; rfl)); intro zB hg w35 hbox hb; have n0_ := Aside0.mk (zt (g := zE) (o := .cells #[.int .i64 a0_0, .slice (some ad195) l0_1.length c0_1] 25 (0, 0)) (by (with_reducible repeat (first | refine zh ?_ _ | refine zj ?_ | refine zg ?_ _)); exact zD.out) hb); have n1_ := Aside0.mk (zm (by repeat (first | (with_reducible first | exact HB.out | apply zf | apply zc | apply ze | refine zk ?_ zF.out) | exact HB.out)) hb); have n2_ := Aside0.mk (hbox); have n3_ := Aside0.mk ((by rw [hg]; exact (zl (by repeat (first | (with_reducible first | exact HB.out | apply zf | apply zc | apply ze | refine zk ?_ zF.out) | exact HB.out))) : w.heap.size ≤ zB)); have n4_ := Aside0.mk ((by rw [hg]; exact (zl (by repeat (first | (with_reducible first | exact HB.out | apply zf | apply zc | apply ze | refine zk ?_ zF.out) | exact HB.out))) : w.heap.size ≤ zB)); have n5_ := Aside0.mk ((by rw [hg]; exact Nat.ne_of_lt (zy (g := zE) (o := .cells #[.int .i64 a0_0, .slice (some ad195) l0_1.length c0_1] 25 (0, 0)) (by (with_reducible repeat (first | refine zh ?_ _ | refine zj ?_ | refine zg ?_ _)); exact zD.out)) : zE ≠ zB)); have n6_ := Aside0.mk ((by rw [hg]; exact Nat.ne_of_gt (zy (g := zE) (o := .cells #[.int .i64 a0_0, .slice (some ad195) l0_1.length c0_1] 25 (0, 0)) (by (with_reducible repeat (first | refine zh ?_ _ | refine zj ?_ | refine zg ?_ _)); exact zD.out)) : zB ≠ zE)); clear zD; clear HB; have zD := n0_; have HB := n1_; have zA := n2_; have GW196 := n3_; have zH := n4_; have zC := n5_; have zG := n6_; clear n0_ n1_ n2_ n3_ n4_ n5_ n6_; clear hb hbox hg; have zSd := zG.out; have zTd := zC.out; have zQc : w35.cell? ⟨zB, 0, none⟩ = some (.bool false) := (zi zA.out 0).trans rfl; have zRc : w35.cell? ⟨zB, 1, none⟩ = some (.string (⟨#[]⟩ : ByteArray)) := (zi zA.out 1).trans rfl; have zSc : w35.cell? ⟨zB, 2, none⟩ = some (.string (⟨#[]⟩ : ByteArray)) := (zi zA.out 2).trans rfl; have zTc : w35.cell? ⟨zB, 3, none⟩ = some (.int .i64 0) := (zi zA.out 3).trans rfl; have zUc : w35.cell? ⟨zB, 4, none⟩ = some (.int .i64 0) := (zi zA.out 4).trans rfl; have zVc : w35.cell? ⟨zB, 5, none⟩ = some (.int .i64 0) := (zi zA.out 5).trans rfl; have zWc : w35.cell? ⟨zB, 6, none⟩ = some (.int .i64 0) := (zi zA.out 6).trans rfl; have zXc : w35.cell? ⟨zB, 7, none⟩ = some (.int .i64 0) := (zi zA.out 7).trans rfl; have zYc := zd zA.out 0; have zZc := zd zA.out 1; have zad := zd zA.out 2; have zbd := zd zA.out 3; have zcd := zd zA.out 4; have zdd := zd zA.out 5; have zed := zd zA.out 6; have zfd := zd zA.out 7) | ((with_reducible refine zn (f := 56) rfl ?_); refine zz (some 29) rfl rfl Tryd.func56 (by kernel_rfl) rfl #[.agg #[.string ((rd_T55 l0_1 x23_2).f1.f0), .string ((rd_T55 l0_1 x23_2).f1.f1), .int .i64 ((rd_T55 l0_1 x23_2).f1.f2), .int .i64 ((rd_T55 l0_1 x23_2).f1.f3), .int .i64 ((rd_T55 l0_1 x23_2).f1.f4), .int .i64 ((rd_T55 l0_1 x23_2).f1.f5), .int .i64 ((rd_T55 l0_1 x23_2).f1.f6)]] rfl (by (try simp only [List.map_toArray, List.map_cons, List.map_nil]); first | done | rfl | (simp only [List.length_drop, List.length_take]; rfl)) ?_; (with_reducible refine (impl_Node_valid.calls k2 ((rd_T55 l0_1 x23_2).f1.f0) ((rd_T55 l0_1 x23_2).f1.f1) ((rd_T55 l0_1 x23_2).f1.f2) ((rd_T55 l0_1 x23_2).f1.f3) ((rd_T55 l0_1 x23_2).f1.f4) ((rd_T55 l0_1 x23_2).f1.f5) ((rd_T55 l0_1 x23_2).f1.f6) true _ A14.out ?globMAX_).mono ?_); (case globMAX_ => exact Go.Proofs.YtejecjjimggjeaaDoorH.GFMAX.below HGMAX_.out (by repeat (first | (with_reducible first | exact HB.out | exact Below.refl _ _ | apply zf | apply zc | apply ze | refine zk ?_ (Aside0.out (by assumption))) | exact HB.out))); rintro e w38 ⟨rfl, hb⟩; refine ⟨_, rfl, ?_⟩; have n0_ := Aside0.mk (zt (g := zE) (o := .cells #[.int .i64 a0_0, .slice (some ad195) l0_1.length c0_1] 25 (0, 0)) (by (with_reducible repeat (first | refine zh ?_ _ | refine zj ?_ | refine zg ?_ _)); refine zo ?_ zC.out _; (with_reducible repeat (first | refine zh ?_ _ | refine zj ?_ | refine zg ?_ _)); refine zo ?_ zC.out _; (with_reducible repeat (first | refine zh ?_ _ | refine zj ?_ | refine zg ?_ _)); refine zo ?_ zC.out _; (with_reducible repeat (first | refine zh ?_ _ | refine zj ?_ | refine zg ?_ _)); refine zo ?_ zC.out _; (with_reducible repeat (first | refine zh ?_ _ | refine zj ?_ | refine zg ?_ _)); refine zo ?_ zC.out _; (with_reducible repeat (first | refine zh ?_ _ | refine zj ?_ | refine zg ?_ _)); refine zo ?_ zC.out _; (with_reducible repeat (first | refine zh ?_ _ | refine zj ?_ | refine zg ?_ _)); refine zo ?_ zC.out _; (with_reducible repeat (first | refine zh ?_ _ | refine zj ?_ | refine zg ?_ _)); refine zo ?_ zC.out _; (with_reducible repeat (first | refine zh ?_ _ | refine zj ?_ | refine zg ?_ _)); exact zD.out) hb); have n1_ := Aside0.mk (zt (g := zB) (o := .cells #[.bool ((rd_T55 l0_1 x23_2).f0), .string ((rd_T55 l0_1 x23_2).f1.f0), .string ((rd_T55 l0_1 x23_2).f1.f1), .int .i64 ((rd_T55 l0_1 x23_2).f1.f2), .int .i64 ((rd_T55 l0_1 x23_2).f1.f3), .int .i64 ((rd_T55 l0_1 x23_2).f1.f4), .int .i64 ((rd_T55 l0_1 x23_2).f1.f5), .int .i64 ((rd_T55 l0_1 x23_2).f1.f6)] 55 (0, 0)) (by (with_reducible repeat (first | refine zh ?_ _ | refine zj ?_ | refine zg ?_ _)); refine zq (cs := #[.bool ((rd_T55 l0_1 x23_2).f0), .string ((rd_T55 l0_1 x23_2).f1.f0), .string ((rd_T55 l0_1 x23_2).f1.f1), .int .i64 ((rd_T55 l0_1 x23_2).f1.f2), .int .i64 ((rd_T55 l0_1 x23_2).f1.f3), .int .i64 ((rd_T55 l0_1 x23_2).f1.f4), .int .i64 ((rd_T55 l0_1 x23_2).f1.f5), .int .i64 0]) ?_ 7 _ rfl; (with_reducible repeat (first | refine zh ?_ _ | refine zj ?_ | refine zg ?_ _)); refine zq (cs := #[.bool ((rd_T55 l0_1 x23_2).f0), .string ((rd_T55 l0_1 x23_2).f1.f0), .string ((rd_T55 l0_1 x23_2).f1.f1), .int .i64 ((rd_T55 l0_1 x23_2).f1.f2), .int .i64 ((rd_T55 l0_1 x23_2).f1.f3), .int .i64 ((rd_T55 l0_1 x23_2).f1.f4), .int .i64 0, .int .i64 0]) ?_ 6 _ rfl; (with_reducible repeat (first | refine zh ?_ _ | refine zj ?_ | refine zg ?_ _)); refine zq (cs := #[.bool ((rd_T55 l0_1 x23_2).f0), .string ((rd_T55 l0_1 x23_2).f1.f0), .string ((rd_T55 l0_1 x23_2).f1.f1), .int .i64 ((rd_T55 l0_1 x23_2).f1.f2), .int .i64 ((rd_T55 l0_1 x23_2).f1.f3), .int .i64 0, .int .i64 0, .int .i64 0]) ?_ 5 _ rfl; (with_reducible repeat (first | refine zh ?_ _ | refine zj ?_ | refine zg ?_ _)); refine zq (cs := #[.bool ((rd_T55 l0_1 x23_2).f0), .string ((rd_T55 l0_1 x23_2).f1.f0), .string ((rd_T55 l0_1 x23_2).f1.f1), .int .i64 ((rd_T55 l0_1 x23_2).f1.f2), .int .i64 0, .int .i64 0, .int .i64 0, .int .i64 0]) ?_ 4 _ rfl; (with_reducible repeat (first | refine zh ?_ _ | refine zj ?_ | refine zg ?_ _)); refine zq (cs := #[.bool ((rd_T55 l0_1 x23_2).f0), .string ((rd_T55 l0_1 x23_2).f1.f0), .string ((rd_T55 l0_1 x23_2).f1.f1), .int .i64 0, .int .i64 0, .int .i64 0, .int .i64 0, .int .i64 0]) ?_ 3 _ rfl; (with_reducible repeat (first | refine zh ?_ _ | refine zj ?_ | refine zg ?_ _)); refine zq (cs := #[.bool ((rd_T55 l0_1 x23_2).f0), .string ((rd_T55 l0_1 x23_2).f1.f0), .string (⟨#[]⟩ : ByteArray), .int .i64 0, .int .i64 0, .int .i64 0, .int .i64 0, .int .i64 0]) ?_ 2 _ rfl; (with_reducible repeat (first | refine zh ?_ _ | refine zj ?_ | refine zg ?_ _)); refine zq (cs := #[.bool ((rd_T55 l0_1 x23_2).f0), .string (⟨#[]⟩ : ByteArray), .string (⟨#[]⟩ : ByteArray), .int .i64 0, .int .i64 0, .int .i64 0, .int .i64 0, .int .i64 0]) ?_ 1 _ rfl; (with_reducible repeat (first | refine zh ?_ _ | refine zj ?_ | refine zg ?_ _)); refine zq (cs := #[.bool false, .string (⟨#[]⟩ : ByteArray), .string (⟨#[]⟩ : ByteArray), .int .i64 0, .int .i64 0, .int .i64 0, .int .i64 0, .int .i64 0]) ?_ 0 _ rfl; (with_reducible repeat (first | refine zh ?_ _ | refine zj ?_ | refine zg ?_ _)); exact zA.out) hb); have n2_ := Aside0.mk (zm (by repeat (first | (with_reducible first | exact HB.out | apply zf | apply zc | apply ze | refine zk ?_ zF.out | refine zk ?_ zH.out) | exact HB.out)) hb); clear zD; clear zA; clear HB; have zD := n0_; have zA := n1_; have HB := n2_; clear n0_ n1_ n2_; (try clear hb); (try clear hb2); (try clear hk); (try clear hi); have zgd : w38.cell? ⟨zB, 0, none⟩ = some (.bool ((rd_T55 l0_1 x23_2).f0)) := (zi zA.out 0).trans rfl; have zhd : w38.cell? ⟨zB, 1, none⟩ = some (.string ((rd_T55 l0_1 x23_2).f1.f0)) := (zi zA.out 1).trans rfl; have zid : w38.cell? ⟨zB, 2, none⟩ = some (.string ((rd_T55 l0_1 x23_2).f1.f1)) := (zi zA.out 2).trans rfl; have zjd : w38.cell? ⟨zB, 3, none⟩ = some (.int .i64 ((rd_T55 l0_1 x23_2).f1.f2)) := (zi zA.out 3).trans rfl; have zkd : w38.cell? ⟨zB, 4, none⟩ = some (.int .i64 ((rd_T55 l0_1 x23_2).f1.f3)) := (zi zA.out 4).trans rfl; have zld : w38.cell? ⟨zB, 5, none⟩ = some (.int .i64 ((rd_T55 l0_1 x23_2).f1.f4)) := (zi zA.out 5).trans rfl; have zmd : w38.cell? ⟨zB, 6, none⟩ = some (.int .i64 ((rd_T55 l0_1 x23_2).f1.f5)) := (zi zA.out 6).trans rfl; have znd : w38.cell? ⟨zB, 7, none⟩ = some (.int .i64 ((rd_T55 l0_1 x23_2).f1.f6)) := (zi zA.out 7).trans rfl; have zod := zd zA.out 0; have zpd := zd zA.out 1; have zqd := zd zA.out 2; have zrd := zd zA.out 3; have zsd := zd zA.out 4; have ztd := zd zA.out 5; have zud := zd zA.out 6; have zvd := zd zA.out 7))
           go_ret
           exact ⟨by first | rfl | (simp [errW_none, errW_some] <;> rfl) | (simp [*, errW_none, errW_some] <;> rfl), by repeat (first | (with_reducible first | exact HB.out | apply zf | apply zc | apply ze | refine zk ?_ zF.out | refine zk ?_ zH.out) | exact HB.out)⟩
         ·replace c15 := Bool.eq_false_iff.mpr c15
          subst c15
          have H1 : (some false) = some r := by rw [if_neg (show ¬ (false = true) by decide)] at H; exact H
          clear H
          have H := H1
          clear H1
          obtain rfl := Option.some.inj H
          have p195 : 0 ≤ (x23_2 : Int) := of_decide_eq_true (by first | (with_reducible assumption) | assumption)
          have q195 : x23_2 < (l0_1.length : Int) := of_decide_eq_true (by first | (with_reducible assumption) | assumption)
          obtain ⟨ad195, e195, hx195_0, hx195_1, hx195_2, hx195_3, hx195_4, hx195_5, hx195_6, hx195_7⟩ := at_T55 HR0_1.out x23_2 p195 q195
          cases e195
          replace hx195_0 := zb HB.out hx195_0
          replace hx195_1 := zb HB.out hx195_1
          replace hx195_2 := zb HB.out hx195_2
          replace hx195_3 := zb HB.out hx195_3
          replace hx195_4 := zb HB.out hx195_4
          replace hx195_5 := zb HB.out hx195_5
          replace hx195_6 := zb HB.out hx195_6
          replace hx195_7 := zb HB.out hx195_7
          replace p195 := eq_true p195
          replace q195 := eq_true q195
          go_wp2_with (first | ((with_reducible refine zw (N := 5) rfl ?_); (try (refine gate_guard (by rfl) ?_; dsimp only)); refine zx ?hg (N := 5) ?hd (cs := #[.bool false, .string (⟨#[]⟩ : ByteArray), .string (⟨#[]⟩ : ByteArray), .int .i64 0, .int .i64 0, .int .i64 0, .int .i64 0, .int .i64 0]) (t := 55) ?hr ?_; (case hd => rfl); (case hg => rfl); (case hr => first | (go_simp; done) | (go_simp; rfl)); intro zB hg w40 hbox hb; have n0_ := Aside0.mk (zt (g := zE) (o := .cells #[.int .i64 a0_0, .slice (some ad195) l0_1.length c0_1] 25 (0, 0)) (by (with_reducible repeat (first | refine zh ?_ _ | refine zj ?_ | refine zg ?_ _)); exact zD.out) hb); have n1_ := Aside0.mk (zm (by repeat (first | (with_reducible first | exact HB.out | apply zf | apply zc | apply ze | refine zk ?_ zF.out) | exact HB.out)) hb); have n2_ := Aside0.mk (hbox); have n3_ := Aside0.mk ((by rw [hg]; exact (zl (by repeat (first | (with_reducible first | exact HB.out | apply zf | apply zc | apply ze | refine zk ?_ zF.out) | exact HB.out))) : w.heap.size ≤ zB)); have n4_ := Aside0.mk ((by rw [hg]; exact (zl (by repeat (first | (with_reducible first | exact HB.out | apply zf | apply zc | apply ze | refine zk ?_ zF.out) | exact HB.out))) : w.heap.size ≤ zB)); have n5_ := Aside0.mk ((by rw [hg]; exact Nat.ne_of_lt (zy (g := zE) (o := .cells #[.int .i64 a0_0, .slice (some ad195) l0_1.length c0_1] 25 (0, 0)) (by (with_reducible repeat (first | refine zh ?_ _ | refine zj ?_ | refine zg ?_ _)); exact zD.out)) : zE ≠ zB)); have n6_ := Aside0.mk ((by rw [hg]; exact Nat.ne_of_gt (zy (g := zE) (o := .cells #[.int .i64 a0_0, .slice (some ad195) l0_1.length c0_1] 25 (0, 0)) (by (with_reducible repeat (first | refine zh ?_ _ | refine zj ?_ | refine zg ?_ _)); exact zD.out)) : zB ≠ zE)); clear zD; clear HB; have zD := n0_; have HB := n1_; have zA := n2_; have GW196 := n3_; have zH := n4_; have zC := n5_; have zG := n6_; clear n0_ n1_ n2_ n3_ n4_ n5_ n6_; clear hb hbox hg; have zUd := zG.out; have zVd := zC.out; have zwd : w40.cell? ⟨zB, 0, none⟩ = some (.bool false) := (zi zA.out 0).trans rfl; have zxd : w40.cell? ⟨zB, 1, none⟩ = some (.string (⟨#[]⟩ : ByteArray)) := (zi zA.out 1).trans rfl; have zyd : w40.cell? ⟨zB, 2, none⟩ = some (.string (⟨#[]⟩ : ByteArray)) := (zi zA.out 2).trans rfl; have zzd : w40.cell? ⟨zB, 3, none⟩ = some (.int .i64 0) := (zi zA.out 3).trans rfl; have zAd : w40.cell? ⟨zB, 4, none⟩ = some (.int .i64 0) := (zi zA.out 4).trans rfl; have zBd : w40.cell? ⟨zB, 5, none⟩ = some (.int .i64 0) := (zi zA.out 5).trans rfl; have zCd : w40.cell? ⟨zB, 6, none⟩ = some (.int .i64 0) := (zi zA.out 6).trans rfl; have zDd : w40.cell? ⟨zB, 7, none⟩ = some (.int .i64 0) := (zi zA.out 7).trans rfl; have zEd := zd zA.out 0; have zFd := zd zA.out 1; have zGd := zd zA.out 2; have zHd := zd zA.out 3; have zId := zd zA.out 4; have zJd := zd zA.out 5; have zKd := zd zA.out 6; have zLd := zd zA.out 7) | ((with_reducible refine zn (f := 56) rfl ?_); refine zz (some 29) rfl rfl Tryd.func56 (by kernel_rfl) rfl #[.agg #[.string ((rd_T55 l0_1 x23_2).f1.f0), .string ((rd_T55 l0_1 x23_2).f1.f1), .int .i64 ((rd_T55 l0_1 x23_2).f1.f2), .int .i64 ((rd_T55 l0_1 x23_2).f1.f3), .int .i64 ((rd_T55 l0_1 x23_2).f1.f4), .int .i64 ((rd_T55 l0_1 x23_2).f1.f5), .int .i64 ((rd_T55 l0_1 x23_2).f1.f6)]] rfl (by (try simp only [List.map_toArray, List.map_cons, List.map_nil]); first | done | rfl | (simp only [List.length_drop, List.length_take]; rfl)) ?_; (with_reducible refine (impl_Node_valid.calls k2 ((rd_T55 l0_1 x23_2).f1.f0) ((rd_T55 l0_1 x23_2).f1.f1) ((rd_T55 l0_1 x23_2).f1.f2) ((rd_T55 l0_1 x23_2).f1.f3) ((rd_T55 l0_1 x23_2).f1.f4) ((rd_T55 l0_1 x23_2).f1.f5) ((rd_T55 l0_1 x23_2).f1.f6) false _ A14.out ?globMAX_).mono ?_); (case globMAX_ => exact Go.Proofs.YtejecjjimggjeaaDoorH.GFMAX.below HGMAX_.out (by repeat (first | (with_reducible first | exact HB.out | exact Below.refl _ _ | apply zf | apply zc | apply ze | refine zk ?_ (Aside0.out (by assumption))) | exact HB.out))); rintro e w43 ⟨rfl, hb⟩; refine ⟨_, rfl, ?_⟩; have n0_ := Aside0.mk (zt (g := zE) (o := .cells #[.int .i64 a0_0, .slice (some ad195) l0_1.length c0_1] 25 (0, 0)) (by (with_reducible repeat (first | refine zh ?_ _ | refine zj ?_ | refine zg ?_ _)); refine zo ?_ zC.out _; (with_reducible repeat (first | refine zh ?_ _ | refine zj ?_ | refine zg ?_ _)); refine zo ?_ zC.out _; (with_reducible repeat (first | refine zh ?_ _ | refine zj ?_ | refine zg ?_ _)); refine zo ?_ zC.out _; (with_reducible repeat (first | refine zh ?_ _ | refine zj ?_ | refine zg ?_ _)); refine zo ?_ zC.out _; (with_reducible repeat (first | refine zh ?_ _ | refine zj ?_ | refine zg ?_ _)); refine zo ?_ zC.out _; (with_reducible repeat (first | refine zh ?_ _ | refine zj ?_ | refine zg ?_ _)); refine zo ?_ zC.out _; (with_reducible repeat (first | refine zh ?_ _ | refine zj ?_ | refine zg ?_ _)); refine zo ?_ zC.out _; (with_reducible repeat (first | refine zh ?_ _ | refine zj ?_ | refine zg ?_ _)); refine zo ?_ zC.out _; (with_reducible repeat (first | refine zh ?_ _ | refine zj ?_ | refine zg ?_ _)); exact zD.out) hb); have n1_ := Aside0.mk (zt (g := zB) (o := .cells #[.bool ((rd_T55 l0_1 x23_2).f0), .string ((rd_T55 l0_1 x23_2).f1.f0), .string ((rd_T55 l0_1 x23_2).f1.f1), .int .i64 ((rd_T55 l0_1 x23_2).f1.f2), .int .i64 ((rd_T55 l0_1 x23_2).f1.f3), .int .i64 ((rd_T55 l0_1 x23_2).f1.f4), .int .i64 ((rd_T55 l0_1 x23_2).f1.f5), .int .i64 ((rd_T55 l0_1 x23_2).f1.f6)] 55 (0, 0)) (by (with_reducible repeat (first | refine zh ?_ _ | refine zj ?_ | refine zg ?_ _)); refine zq (cs := #[.bool ((rd_T55 l0_1 x23_2).f0), .string ((rd_T55 l0_1 x23_2).f1.f0), .string ((rd_T55 l0_1 x23_2).f1.f1), .int .i64 ((rd_T55 l0_1 x23_2).f1.f2), .int .i64 ((rd_T55 l0_1 x23_2).f1.f3), .int .i64 ((rd_T55 l0_1 x23_2).f1.f4), .int .i64 ((rd_T55 l0_1 x23_2).f1.f5), .int .i64 0]) ?_ 7 _ rfl; (with_reducible repeat (first | refine zh ?_ _ | refine zj ?_ | refine zg ?_ _)); refine zq (cs := #[.bool ((rd_T55 l0_1 x23_2).f0), .string ((rd_T55 l0_1 x23_2).f1.f0), .string ((rd_T55 l0_1 x23_2).f1.f1), .int .i64 ((rd_T55 l0_1 x23_2).f1.f2), .int .i64 ((rd_T55 l0_1 x23_2).f1.f3), .int .i64 ((rd_T55 l0_1 x23_2).f1.f4), .int .i64 0, .int .i64 0]) ?_ 6 _ rfl; (with_reducible repeat (first | refine zh ?_ _ | refine zj ?_ | refine zg ?_ _)); refine zq (cs := #[.bool ((rd_T55 l0_1 x23_2).f0), .string ((rd_T55 l0_1 x23_2).f1.f0), .string ((rd_T55 l0_1 x23_2).f1.f1), .int .i64 ((rd_T55 l0_1 x23_2).f1.f2), .int .i64 ((rd_T55 l0_1 x23_2).f1.f3), .int .i64 0, .int .i64 0, .int .i64 0]) ?_ 5 _ rfl; (with_reducible repeat (first | refine zh ?_ _ | refine zj ?_ | refine zg ?_ _)); refine zq (cs := #[.bool ((rd_T55 l0_1 x23_2).f0), .string ((rd_T55 l0_1 x23_2).f1.f0), .string ((rd_T55 l0_1 x23_2).f1.f1), .int .i64 ((rd_T55 l0_1 x23_2).f1.f2), .int .i64 0, .int .i64 0, .int .i64 0, .int .i64 0]) ?_ 4 _ rfl; (with_reducible repeat (first | refine zh ?_ _ | refine zj ?_ | refine zg ?_ _)); refine zq (cs := #[.bool ((rd_T55 l0_1 x23_2).f0), .string ((rd_T55 l0_1 x23_2).f1.f0), .string ((rd_T55 l0_1 x23_2).f1.f1), .int .i64 0, .int .i64 0, .int .i64 0, .int .i64 0, .int .i64 0]) ?_ 3 _ rfl; (with_reducible repeat (first | refine zh ?_ _ | refine zj ?_ | refine zg ?_ _)); refine zq (cs := #[.bool ((rd_T55 l0_1 x23_2).f0), .string ((rd_T55 l0_1 x23_2).f1.f0), .string (⟨#[]⟩ : ByteArray), .int .i64 0, .int .i64 0, .int .i64 0, .int .i64 0, .int .i64 0]) ?_ 2 _ rfl; (with_reducible repeat (first | refine zh ?_ _ | refine zj ?_ | refine zg ?_ _)); refine zq (cs := #[.bool ((rd_T55 l0_1 x23_2).f0), .string (⟨#[]⟩ : ByteArray), .string (⟨#[]⟩ : ByteArray), .int .i64 0, .int .i64 0, .int .i64 0, .int .i64 0, .int .i64 0]) ?_ 1 _ rfl; (with_reducible repeat (first | refine zh ?_ _ | refine zj ?_ | refine zg ?_ _)); refine zq (cs := #[.bool false, .string (⟨#[]⟩ : ByteArray), .string (⟨#[]⟩ : ByteArray), .int .i64 0, .int .i64 0, .int .i64 0, .int .i64 0, .int .i64 0]) ?_ 0 _ rfl; (with_reducible repeat (first | refine zh ?_ _ | refine zj ?_ | refine zg ?_ _)); exact zA.out) hb); have n2_ := Aside0.mk (zm (by repeat (first | (with_reducible first | exact HB.out | apply zf | apply zc | apply ze | refine zk ?_ zF.out | refine zk ?_ zH.out) | exact HB.out)) hb); clear zD; clear zA; clear HB; have zD := n0_; have zA := n1_; have HB := n2_; clear n0_ n1_ n2_; (try clear hb); (try clear hb2); (try clear hk); (try clear hi)))
          go_ret
          exact ⟨by first | rfl | (simp [errW_none, errW_some] <;> rfl) | (simp [*, errW_none, errW_some] <;> rfl), by repeat (first | (with_reducible first | exact HB.out | apply zf | apply zc | apply ze | refine zk ?_ zF.out | refine zk ?_ zH.out) | exact HB.out)⟩
        ·rw [if_neg c13] at H
         exact absurd H (by simp)
       ·rw [if_neg c12] at H
        exact absurd H (by simp)
      ·rw [if_neg c11] at H
       have c11b0 : decide (x23_2 < (l0_1.length : Int)) = false := decide_eq_false c11
       clear c11
       obtain rfl := Option.some.inj H
       go_wp2
       go_ret
       exact ⟨by first | rfl | (simp [errW_none, errW_some] <;> rfl) | (simp [*, errW_none, errW_some] <;> rfl), by repeat (first | (with_reducible first | exact HB.out | apply zf | apply zc | apply ze | refine zk ?_ zF.out) | exact HB.out)⟩

end Go.Proofs.YtejecjjimggjeaaDoor.GFnExactDecodeTxn
