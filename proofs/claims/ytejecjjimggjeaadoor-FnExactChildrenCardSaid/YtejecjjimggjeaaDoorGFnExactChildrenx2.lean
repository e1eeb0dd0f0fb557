/- Written by give.py, a program of this session, that runs the kit's print and lays contracts proved by hand beside it. -/
import Derived.Test.YtejecjjimggjeaaDoorGFnExactChildrenx0
import Derived.Test.YtejecjjimggjeaaDoorGFnExactChildrenx1
namespace Go.Proofs.YtejecjjimggjeaaDoor.GFnExactChildren
open Go.RowKit Go.Proofs.YtejecjjimggjeaaDoorW.PrintWords Go.Proofs.YtejecjjimggjeaaDoorW.PrintLast Go.Proofs.YtejecjjimggjeaaDoorW.PrintMore
attribute [local go_sem] max2_int min2_int max_two min_two max_three min_three max_four min_four
attribute [local go_sem high] Go.Proofs.YtejecjjimggjeaaDoorH.str_leq Go.Proofs.YtejecjjimggjeaaDoorH.str_geq Go.Proofs.YtejecjjimggjeaaDoorH.str_gtr   -- for this text's walks alone
set_option linter.unusedVariables false
set_option linter.unusedSimpArgs false

mutual
def spec_ValidPath.j0 : Nat → ByteArray → Bool → Option (Bool)
 | 0, _, _ => none
 | k + 1, x0, x15 => if x15 = true then (some false) else ((spec_l3Names.f k x0).bind fun t115 => (if (t115.length : Int) > 6 then (some false) else (spec_ValidPath.l0 k t115 0)))
def spec_ValidPath.l0 : Nat → List ByteArray → Int → Option (Bool)
 | 0, _, _ => none
 | k + 1, x3, x4 => if x4 < (x3.length : Int) then (if 0 ≤ x4 then (if ((rdOf ByteArray.empty x3 x4).size : Int) < 1 then (spec_ValidPath.j2 k x3 x4 true) else (spec_ValidPath.j2 k x3 x4 (decide (((rdOf ByteArray.empty x3 x4).size : Int) > 16)))) else (none)) else (some true)
def spec_ValidPath.j2 : Nat → List ByteArray → Int → Bool → Option (Bool)
 | 0, _, _, _ => none
 | k + 1, x3, x4, x40 => if x40 = true then (some false) else (spec_ValidPath.l1 k x3 x4 0)
def spec_ValidPath.l1 : Nat → List ByteArray → Int → Int → Option (Bool)
 | 0, _, _, _ => none
 | k + 1, x3, x4, x5 => if 0 ≤ x4 then (if x4 < (x3.length : Int) then (if x5 < ((rdOf ByteArray.empty x3 x4).size : Int) then (if 0 ≤ x5 then ((spec_l3Letter.f (bt (rdOf ByteArray.empty x3 x4) x5)).bind fun t122 => (if t122 = true then (spec_ValidPath.l1 k x3 x4 (wrap64 (x5 + 1))) else (some false))) else (none)) else (spec_ValidPath.l0 k x3 (wrap64 (x4 + 1)))) else (none)) else (none)
end
def spec_ValidPath.f (k : Nat) (a0 : ByteArray) : Option (Bool) := if a0.toList = ([47] : List UInt8) then (some true) else (if (a0.size : Int) < 2 then (spec_ValidPath.j0 k a0 true) else (if 0 < (a0.size : Int) then (spec_ValidPath.j0 k a0 ((bt a0 0) != 47)) else (none)))
theorem spec_ValidPath.mono_l : ∀ k, (∀ y0 y1, LeO (spec_ValidPath.j0 k y0 y1) (spec_ValidPath.j0 (k + 1) y0 y1)) ∧ (∀ y0 y1, LeO (spec_ValidPath.l0 k y0 y1) (spec_ValidPath.l0 (k + 1) y0 y1)) ∧ (∀ y0 y1 y2, LeO (spec_ValidPath.j2 k y0 y1 y2) (spec_ValidPath.j2 (k + 1) y0 y1 y2)) ∧ (∀ y0 y1 y2, LeO (spec_ValidPath.l1 k y0 y1 y2) (spec_ValidPath.l1 (k + 1) y0 y1 y2))
 | 0 => ⟨fun _ _ r h => by simp [spec_ValidPath.j0] at h, fun _ _ r h => by simp [spec_ValidPath.l0] at h, fun _ _ _ r h => by simp [spec_ValidPath.j2] at h, fun _ _ _ r h => by simp [spec_ValidPath.l1] at h⟩
 | k + 1 => by
  obtain ⟨ih0, ih1, ih2, ih3⟩ := spec_ValidPath.mono_l k
  refine ⟨?_, ?_, ?_, ?_⟩
  ·intro y0 y1
   unfold spec_ValidPath.j0
   repeat' first
   | (with_reducible exact ih0 _ _)
   | (with_reducible exact ih1 _ _)
   | (with_reducible exact ih2 _ _ _)
   | (with_reducible exact ih3 _ _ _)
   | (with_reducible exact spec_l3Names.mono _ _)
   | (with_reducible exact LeO.refl _)
   | (with_reducible exact LeO.none _)
   | (with_reducible refine LeO.ite ?_ ?_)
   | (with_reducible refine LeO.bind ?_ (fun _ => ?_))
   | exact ih0 _ _
   | exact ih1 _ _
   | exact ih2 _ _ _
   | exact ih3 _ _ _
   | exact spec_l3Names.mono _ _
   | exact LeO.none _
   | refine LeO.ite ?_ ?_
   | refine LeO.bind ?_ (fun _ => ?_)
  ·intro y0 y1
   unfold spec_ValidPath.l0
   repeat' first
   | (with_reducible exact ih0 _ _)
   | (with_reducible exact ih1 _ _)
   | (with_reducible exact ih2 _ _ _)
   | (with_reducible exact ih3 _ _ _)
   | (with_reducible exact spec_l3Names.mono _ _)
   | (with_reducible exact LeO.refl _)
   | (with_reducible exact LeO.none _)
   | (with_reducible refine LeO.ite ?_ ?_)
   | (with_reducible refine LeO.bind ?_ (fun _ => ?_))
   | exact ih0 _ _
   | exact ih1 _ _
   | exact ih2 _ _ _
   | exact ih3 _ _ _
   | exact spec_l3Names.mono _ _
   | exact LeO.none _
   | refine LeO.ite ?_ ?_
   | refine LeO.bind ?_ (fun _ => ?_)
  ·intro y0 y1 y2
   unfold spec_ValidPath.j2
   repeat' first
   | (with_reducible exact ih0 _ _)
   | (with_reducible exact ih1 _ _)
   | (with_reducible exact ih2 _ _ _)
   | (with_reducible exact ih3 _ _ _)
   | (with_reducible exact spec_l3Names.mono _ _)
   | (with_reducible exact LeO.refl _)
   | (with_reducible exact LeO.none _)
   | (with_reducible refine LeO.ite ?_ ?_)
   | (with_reducible refine LeO.bind ?_ (fun _ => ?_))
   | exact ih0 _ _
   | exact ih1 _ _
   | exact ih2 _ _ _
   | exact ih3 _ _ _
   | exact spec_l3Names.mono _ _
   | exact LeO.none _
   | refine LeO.ite ?_ ?_
   | refine LeO.bind ?_ (fun _ => ?_)
  ·intro y0 y1 y2
   unfold spec_ValidPath.l1
   repeat' first
   | (with_reducible exact ih0 _ _)
   | (with_reducible exact ih1 _ _)
   | (with_reducible exact ih2 _ _ _)
   | (with_reducible exact ih3 _ _ _)
   | (with_reducible exact spec_l3Names.mono _ _)
   | (with_reducible exact LeO.refl _)
   | (with_reducible exact LeO.none _)
   | (with_reducible refine LeO.ite ?_ ?_)
   | (with_reducible refine LeO.bind ?_ (fun _ => ?_))
   | exact ih0 _ _
   | exact ih1 _ _
   | exact ih2 _ _ _
   | exact ih3 _ _ _
   | exact spec_l3Names.mono _ _
   | exact LeO.none _
   | refine LeO.ite ?_ ?_
   | refine LeO.bind ?_ (fun _ => ?_)
theorem spec_ValidPath.mono : ∀ a0 k, LeO (spec_ValidPath.f k a0) (spec_ValidPath.f (k + 1) a0) := by
 intro a0 k
 obtain ⟨ih0, ih1, ih2, ih3⟩ := spec_ValidPath.mono_l k
 unfold spec_ValidPath.f
 repeat' first
   | (with_reducible exact ih0 _ _)
   | (with_reducible exact ih1 _ _)
   | (with_reducible exact ih2 _ _ _)
   | (with_reducible exact ih3 _ _ _)
   | (with_reducible exact spec_l3Names.mono _ _)
   | (with_reducible exact LeO.refl _)
   | (with_reducible exact LeO.none _)
   | (with_reducible refine LeO.ite ?_ ?_)
   | (with_reducible refine LeO.bind ?_ (fun _ => ?_))
   | exact ih0 _ _
   | exact ih1 _ _
   | exact ih2 _ _ _
   | exact ih3 _ _ _
   | exact spec_l3Names.mono _ _
   | exact LeO.none _
   | refine LeO.ite ?_ ?_
   | refine LeO.bind ?_ (fun _ => ?_)
set_option maxHeartbeats 8000000 in
set_option maxRecDepth 100000 in
theorem spec_ValidPath.calls (k : Nat) (a0 : ByteArray) (r : Bool) (w : World) (h : spec_ValidPath.f k a0 = some r) :
  Calls Tryd.prog 40 #[.string a0] w fun e w' => e = .returned (.bool r) ∧ Below w.heap.size w w' := by
 have HB := Aside0.mk (Below.refl w.heap.size w)
 have H : (if a0.toList = ([47] : List UInt8) then (some true) else (if (a0.size : Int) < 2 then (spec_ValidPath.j0 k a0 true) else (if 0 < (a0.size : Int) then (spec_ValidPath.j0 k a0 ((bt a0 0) != 47)) else (none)))) = some r := h
 clear h
 by_cases c2 : a0.toList = ([47] : List UInt8)
 ·rw [if_pos c2] at H
  have c2b0 : (a0.toList == ([47] : List UInt8)) = true := beq_iff_eq.mpr c2
  have c2b1 : (a0.toList != ([47] : List UInt8)) = false := bne_eq_false_iff_eq.mpr c2
  clear c2
  obtain rfl := Option.some.inj H
  go_enter Tryd.func40, Tryd.ntmps40
  go_wp2
  go_ret
  exact ⟨by first | rfl | (simp [errW_none, errW_some] <;> rfl) | (simp [*, errW_none, errW_some] <;> rfl), by repeat (first | (with_reducible first | exact HB.out | apply zg | apply zd | apply zf) | exact HB.out)⟩
 ·rw [if_neg c2] at H
  have c2b0 : (a0.toList == ([47] : List UInt8)) = false := beq_eq_false_iff_ne.mpr c2
  have c2b1 : (a0.toList != ([47] : List UInt8)) = true := bne_iff_ne.mpr c2
  have HC3 := Aside0.mk H
  clear H
  go_enter Tryd.func40, Tryd.ntmps40
  go_upto_region 3 with (fail)
  go_cut [15] (fun v15 wc => ∃ (kq : Nat) (x15_2 : Bool), v15 = .bool x15_2 ∧ Aside0 (spec_ValidPath.j0 kq a0 x15_2 = some r) ∧ Aside0 (kq ≤ k) ∧ Aside0 (Below w.heap.size w wc))
  case first =>
   have H := HC3.out
   clear HC3
   by_cases c4 : (a0.size : Int) < 2
   ·rw [if_pos c4] at H
    have c4b0 : decide ((a0.size : Int) < 2) = true := decide_eq_true c4
    have c4b1 : decide (a0.size < 2) = true := decide_eq_true (by omega)
    clear c4
    (first | rw [c4b0] | (simp only [zq, zr]; rw [c4b0]) | skip)
    have H' := Aside0.mk H
    clear H
    go_wp2
    go_meet
    case rel => exact ⟨_, (true), (by first | rfl | (simp; done) | (simp [*]; done)), H', ⟨by first | omega | exact Nat.le_refl _⟩, ⟨by repeat (first | (with_reducible first | exact HB.out | apply zg | apply zd | apply zf) | exact HB.out)⟩⟩
   ·rw [if_neg c4] at H
    have c4b0 : decide ((a0.size : Int) < 2) = false := decide_eq_false c4
    have c4b1 : decide (a0.size < 2) = false := decide_eq_false (by omega)
    clear c4
    (first | rw [c4b0] | (simp only [zq, zr]; rw [c4b0]) | skip)
    by_cases c5 : 0 < (a0.size : Int)
    ·rw [if_pos c5] at H
     have c5b0 : decide (0 < (a0.size : Int)) = true := decide_eq_true c5
     have c5b1 : decide (0 < a0.size) = true := decide_eq_true (by omega)
     clear c5
     have H' := Aside0.mk H
     clear H
     have p6 : 0 ≤ (0 : Int) := (by omega)
     have q6 : 0 < a0.size := (by have : (0 : Int) < (a0.size : Int) := of_decide_eq_true (by first | (with_reducible assumption) | assumption); omega)
     have hx6 : ∀ h : 0 < a0.size, ((a0[0]'h).toNat : Int) = bt a0 0 := bt_at a0 0
     clear p6
     have qi6 : (0 < (a0.size : Int)) = True := eq_true (of_decide_eq_true (by first | (with_reducible assumption) | assumption))
     replace q6 := eq_true q6
     go_wp2
     go_meet
     case rel => exact ⟨_, (((bt a0 0) != 47)), (by first | rfl | (simp; done) | (simp [*]; done)), H', ⟨by first | omega | exact Nat.le_refl _⟩, ⟨by repeat (first | (with_reducible first | exact HB.out | apply zg | apply zd | apply zf) | exact HB.out)⟩⟩
    ·rw [if_neg c5] at H
     exact absurd H (by simp)
  case rest =>
   clear HC3
   try clear c2
   try clear c2b0
   try clear c2b1
   try clear p2
   try clear c4
   try clear c4b0
   try clear c4b1
   try clear c5
   try clear c5b0
   try clear c5b1
   try clear p6
   try clear q6
   try clear hx6
   try clear qi6
   try clear p6
   try clear q6
   obtain ⟨kq, x15_2, rfl, HA, HJ2, HB⟩ := hcut
   cases kq with
   | zero => exact absurd HA.out (by simp [spec_ValidPath.j0])
   | succ kj2 =>
    have H := HA.out
    clear HA
    simp only [spec_ValidPath.j0] at H
    by_cases c7 : x15_2 = true
    ·subst c7
     have H1 : (some false) = some r := by rw [if_pos rfl] at H; exact H
     clear H
     have H := H1
     clear H1
     obtain rfl := Option.some.inj H
     go_wp2
     go_ret
     exact ⟨by first | rfl | (simp [errW_none, errW_some] <;> rfl) | (simp [*, errW_none, errW_some] <;> rfl), by repeat (first | (with_reducible first | exact HB.out | apply zg | apply zd | apply zf) | exact HB.out)⟩
    ·replace c7 := Bool.eq_false_iff.mpr c7
     subst c7
     have H1 : ((spec_l3Names.f kj2 a0).bind fun t115 => (if (t115.length : Int) > 6 then (some false) else (spec_ValidPath.l0 kj2 t115 0))) = some r := by rw [if_neg (show ¬ (false = true) by decide)] at H; exact H
     clear H
     have H := H1
     clear H1
     replace H := Option.bind_eq_some_iff.mp H
     obtain ⟨t115, A80, H⟩ := H
     replace H : (if (t115.length : Int) > 6 then (some false) else (spec_ValidPath.l0 kj2 t115 0)) = some r := H
     have A8 := Aside0.mk A80
     clear A80
     by_cases c9 : (t115.length : Int) > 6
     ·rw [if_pos c9] at H
      have c9b0 : decide (6 < (t115.length : Int)) = true := decide_eq_true c9
      have c9b1 : decide (6 < t115.length) = true := decide_eq_true (by omega)
      clear c9
      obtain rfl := Option.some.inj H
      go_wp2_with (first | ((with_reducible refine zk (f := 62) rfl ?_); refine zv (some 17) rfl rfl Tryd.func62 (by kernel_rfl) rfl #[.string a0] rfl (by (try simp only [List.map_toArray, List.map_cons, List.map_nil]); first | done | rfl) ?_; (with_reducible refine (spec_l3Names.calls kj2 a0 t115 _ A8.out).mono ?_); rintro e w10 ⟨v116, rfl, zz, hb⟩; refine ⟨_, rfl, ?_⟩; have n0_ := Aside0.mk (Kd.R_lower zz (zh (by exact bl HB.out))); have n1_ := Aside0.mk (zi (by exact bl HB.out) hb); clear HB; have zy := n0_; have HB := n1_; clear n0_ n1_; (try clear hb); (try clear hb2); (try clear hk); (try clear hi); (try clear zz); obtain ⟨Ao11, co11, eo11⟩ := Kd.R_slice zy.out; subst eo11))
      go_ret
      exact ⟨by first | rfl | (simp [errW_none, errW_some] <;> rfl) | (simp [*, errW_none, errW_some] <;> rfl), by repeat (first | (with_reducible first | exact HB.out | apply zg | apply zd | apply zf) | exact HB.out)⟩
     ·rw [if_neg c9] at H
      have c9b0 : decide (6 < (t115.length : Int)) = false := decide_eq_false c9
      have c9b1 : decide (6 < t115.length) = false := decide_eq_false (by omega)
      clear c9
      have H' := Aside0.mk H
      clear H
      go_wp2_with (first | ((with_reducible refine zk (f := 62) rfl ?_); refine zv (some 17) rfl rfl Tryd.func62 (by kernel_rfl) rfl #[.string a0] rfl (by (try simp only [List.map_toArray, List.map_cons, List.map_nil]); first | done | rfl) ?_; (with_reducible refine (spec_l3Names.calls kj2 a0 t115 _ A8.out).mono ?_); rintro e w12 ⟨v116, rfl, zz, hb⟩; refine ⟨_, rfl, ?_⟩; have n0_ := Aside0.mk (Kd.R_lower zz (zh (by exact bl HB.out))); have n1_ := Aside0.mk (zi (by exact bl HB.out) hb); clear HB; have zy := n0_; have HB := n1_; clear n0_ n1_; (try clear hb); (try clear hb2); (try clear hk); (try clear hi); (try clear zz); obtain ⟨Ao13, co13, eo13⟩ := Kd.R_slice zy.out; subst eo13))
      go_loopg [4] kj2 (fun kq v4 w' => ∃ (x4_2 : Int), v4 = .int .i64 x4_2 ∧ Aside0 (spec_ValidPath.l0 kq t115 x4_2 = some r) ∧ Aside0 (kq ≤ kj2) ∧ Aside0 (Kd.R Kd.string 9 w' w.heap.size (fun _ => True) (.slice Ao13 t115.length co13) t115) ∧ Aside0 (Below w.heap.size w w'))
      case atStart => exact ⟨(0), (by first | rfl | (simp; done) | (simp [*]; done)), H', ⟨Nat.le_refl _⟩, ⟨RL zy.out⟩, ⟨by repeat (first | (with_reducible first | exact HB.out | apply zg | apply zd | apply zf) | exact HB.out)⟩⟩
      case round =>
       clear H'
       try clear c2
       try clear c2b0
       try clear c2b1
       try clear p2
       try clear c4
       try clear c4b0
       try clear c4b1
       try clear c5
       try clear c5b0
       try clear c5b1
       try clear c6
       try clear p6
       try clear q6
       try clear hx6
       try clear qi6
       try clear c7
       try clear c9
       try clear c9b0
       try clear c9b1
       try clear p2
       try clear p6
       try clear q6
       obtain ⟨x4_2, rfl, HA, HK2, zx, HB⟩ := hrel
       cases gk with
       | zero => exact absurd HA.out (by simp [spec_ValidPath.l0])
       | succ k2 =>
        have H := HA.out
        clear HA
        simp only [spec_ValidPath.l0] at H
        by_cases c14 : x4_2 < (t115.length : Int)
        ·rw [if_pos c14] at H
         have c14b0 : decide (x4_2 < (t115.length : Int)) = true := decide_eq_true c14
         clear c14
         have HC15 := Aside0.mk H
         clear H
         go_upto_region 11 with (fail)
         go_cut [40] (fun v40 wc => ∃ (kq : Nat) (x40_14 : Bool), v40 = .bool x40_14 ∧ Aside0 (spec_ValidPath.j2 kq t115 x4_2 x40_14 = some r) ∧ Aside0 (kq ≤ k2) ∧ Aside0 (Kd.R Kd.string 9 wc w.heap.size (fun _ => True) (.slice Ao13 t115.length co13) t115) ∧ Aside0 (Below w.heap.size w wc))
         case first =>
          have H := HC15.out
          clear HC15
          by_cases c16 : 0 ≤ x4_2
          ·rw [if_pos c16] at H
           have c16b0 : decide (0 ≤ x4_2) = true := decide_eq_true c16
           clear c16
           (first | rw [c16b0] | (simp only [zq, zr]; rw [c16b0]) | skip)
           by_cases c17 : ((rdOf ByteArray.empty t115 x4_2).size : Int) < 1
           ·rw [if_pos c17] at H
            have c17b0 : decide (((rdOf ByteArray.empty t115 x4_2).size : Int) < 1) = true := decide_eq_true c17
            have c17b1 : decide ((rdOf ByteArray.empty t115 x4_2).size < 1) = true := decide_eq_true (by omega)
            clear c17
            have H' := Aside0.mk H
            clear H
            have p118 : 0 ≤ (x4_2 : Int) := of_decide_eq_true (by first | (with_reducible assumption) | assumption)
            have q118 : x4_2 < (t115.length : Int) := of_decide_eq_true (by first | (with_reducible assumption) | assumption)
            obtain ⟨ad118, e118, hx118_0⟩ := Kd.at_string (Kd.R_reads' zx.out).2.2 x4_2 p118 q118
            cases e118
            replace p118 := eq_true p118
            replace q118 := eq_true q118
            go_wp2
            go_meet
            case rel => exact ⟨_, (true), (by first | rfl | (simp; done) | (simp [*]; done)), H', ⟨by have := HJ2.out; have := HK2.out; first | omega | exact Nat.le_refl _⟩, ⟨RL zx.out⟩, ⟨by repeat (first | (with_reducible first | exact HB.out | apply zg | apply zd | apply zf) | exact HB.out)⟩⟩
           ·rw [if_neg c17] at H
            have c17b0 : decide (((rdOf ByteArray.empty t115 x4_2).size : Int) < 1) = false := decide_eq_false c17
            have c17b1 : decide ((rdOf ByteArray.empty t115 x4_2).size < 1) = false := decide_eq_false (by omega)
            clear c17
            have H' := Aside0.mk H
            clear H
            have p118 : 0 ≤ (x4_2 : Int) := of_decide_eq_true (by first | (with_reducible assumption) | assumption)
            have q118 : x4_2 < (t115.length : Int) := of_decide_eq_true (by first | (with_reducible assumption) | assumption)
            obtain ⟨ad118, e118, hx118_0⟩ := Kd.at_string (Kd.R_reads' zx.out).2.2 x4_2 p118 q118
            cases e118
            replace p118 := eq_true p118
            replace q118 := eq_true q118
            have p119 : 0 ≤ (x4_2 : Int) := of_decide_eq_true (by first | (with_reducible assumption) | assumption)
            have q119 : x4_2 < (t115.length : Int) := of_decide_eq_true (by first | (with_reducible assumption) | assumption)
            obtain ⟨ad119, e119, hx119_0⟩ := Kd.at_string (Kd.R_reads' zx.out).2.2 x4_2 p119 q119
            obtain rfl : ad118 = ad119 := (by injection e119)
            replace p119 := eq_true p119
            replace q119 := eq_true q119
            go_wp2
            go_meet
            case rel => exact ⟨_, (decide (((rdOf ByteArray.empty t115 x4_2).size : Int) > 16)), (by first | rfl | (simp; done) | (simp [*]; done)), H', ⟨by have := HJ2.out; have := HK2.out; first | omega | exact Nat.le_refl _⟩, ⟨RL zx.out⟩, ⟨by repeat (first | (with_reducible first | exact HB.out | apply zg | apply zd | apply zf) | exact HB.out)⟩⟩
          ·rw [if_neg c16] at H
           exact absurd H (by simp)
         case rest =>
          clear HC15
          try clear c1
          try clear p1
          try clear q1
          try clear hx1
          try clear c2
          try clear c2b0
          try clear c2b1
          try clear p2
          try clear c4
          try clear c4b0
          try clear c4b1
          try clear c5
          try clear c5b0
          try clear c5b1
          try clear c6
          try clear p6
          try clear q6
          try clear hx6
          try clear qi6
          try clear c7
          try clear c9
          try clear c9b0
          try clear c9b1
          try clear p11
          try clear q11
          try clear hx11
          try clear c14
          try clear c14b0
          try clear c16
          try clear c16b0
          try clear c17
          try clear c17b0
          try clear c17b1
          try clear hx118_0
          try clear hx119_0
          try clear p118
          try clear p119
          try clear p2
          try clear p6
          try clear q118
          try clear q119
          try clear q6
          obtain ⟨kq, x40_14, rfl, HA, HJ14, zx, HB⟩ := hcut
          cases kq with
          | zero => exact absurd HA.out (by simp [spec_ValidPath.j2])
          | succ kj14 =>
           have H := HA.out
           clear HA
           simp only [spec_ValidPath.j2] at H
           by_cases c18 : x40_14 = true
           ·subst c18
            have H1 : (some false) = some r := by rw [if_pos rfl] at H; exact H
            clear H
            have H := H1
            clear H1
            obtain rfl := Option.some.inj H
            go_wp2
            go_ret
            exact ⟨by first | rfl | (simp [errW_none, errW_some] <;> rfl) | (simp [*, errW_none, errW_some] <;> rfl), by repeat (first | (with_reducible first | exact HB.out | apply zg | apply zd | apply zf) | exact HB.out)⟩
           ·replace c18 := Bool.eq_false_iff.mpr c18
            subst c18
            have H1 : (spec_ValidPath.l1 kj14 t115 x4_2 0) = some r := by rw [if_neg (show ¬ (false = true) by decide)] at H; exact H
            clear H
            have H := H1
            clear H1
            have H' := Aside0.mk H
            clear H
            go_wp2
            go_loopg [5] kj14 (fun kq v5 w' => ∃ (x5_4 : Int), v5 = .int .i64 x5_4 ∧ Aside0 (spec_ValidPath.l1 kq t115 x4_2 x5_4 = some r) ∧ Aside0 (kq ≤ kj14) ∧ Aside0 (Kd.R Kd.string 9 w' w.heap.size (fun _ => True) (.slice Ao13 t115.length co13) t115) ∧ Aside0 (Below w.heap.size w w'))
            case atStart => exact ⟨(0), (by first | rfl | (simp; done) | (simp [*]; done)), H', ⟨Nat.le_refl _⟩, ⟨RL zx.out⟩, ⟨by repeat (first | (with_reducible first | exact HB.out | apply zg | apply zd | apply zf) | exact HB.out)⟩⟩
            case round =>
             clear H'
             try clear c1
             try clear p1
             try clear q1
             try clear hx1
             try clear c2
             try clear c2b0
             try clear c2b1
             try clear p2
             try clear c4
             try clear c4b0
             try clear c4b1
             try clear c5
             try clear c5b0
             try clear c5b1
             try clear c6
             try clear p6
             try clear q6
             try clear hx6
             try clear qi6
             try clear c7
             try clear c9
             try clear c9b0
             try clear c9b1
             try clear p11
             try clear q11
             try clear hx11
             try clear c14
             try clear c14b0
             try clear c16
             try clear c16b0
             try clear c17
             try clear c17b0
             try clear c17b1
             try clear c18
             try clear hx118_0
             try clear hx119_0
             try clear p1
             try clear p11
             try clear p118
             try clear p119
             try clear p2
             try clear p6
             try clear q1
             try clear q11
             try clear q118
             try clear q119
             try clear q6
             obtain ⟨x5_4, rfl, HA, HK4, zx, HB⟩ := hrel
             cases gk with
             | zero => exact absurd HA.out (by simp [spec_ValidPath.l1])
             | succ k4 =>
              have H := HA.out
              clear HA
              simp only [spec_ValidPath.l1] at H
              by_cases c19 : 0 ≤ x4_2
              ·rw [if_pos c19] at H
               have c19b0 : decide (0 ≤ x4_2) = true := decide_eq_true c19
               clear c19
               by_cases c20 : x4_2 < (t115.length : Int)
               ·rw [if_pos c20] at H
                have c20b0 : decide (x4_2 < (t115.length : Int)) = true := decide_eq_true c20
                clear c20
                by_cases c21 : x5_4 < ((rdOf ByteArray.empty t115 x4_2).size : Int)
                ·rw [if_pos c21] at H
                 have c21b0 : decide (x5_4 < ((rdOf ByteArray.empty t115 x4_2).size : Int)) = true := decide_eq_true c21
                 clear c21
                 by_cases c22 : 0 ≤ x5_4
                 ·rw [if_pos c22] at H
                  have c22b0 : decide (0 ≤ x5_4) = true := decide_eq_true c22
                  clear c22
                  replace H := Option.bind_eq_some_iff.mp H
                  obtain ⟨t122, A240, H⟩ := H
                  replace H : (if t122 = true then (spec_ValidPath.l1 k4 t115 x4_2 (wrap64 (x5_4 + 1))) else (some false)) = some r := H
                  have A24 := Aside0.mk A240
                  clear A240
                  by_cases c25 : t122 = true
                  ·subst c25
                   have H1 : (spec_ValidPath.l1 k4 t115 x4_2 (wrap64 (x5_4 + 1))) = some r := by rw [if_pos rfl] at H; exact H
                   clear H
                   have H := H1
                   clear H1
                   have H' := Aside0.mk H
                   clear H
                   have p120 : 0 ≤ (x4_2 : Int) := of_decide_eq_true (by first | (with_reducible assumption) | assumption)
                   have q120 : x4_2 < (t115.length : Int) := of_decide_eq_true (by first | (with_reducible assumption) | assumption)
                   obtain ⟨ad120, e120, hx120_0⟩ := Kd.at_string (Kd.R_reads' zx.out).2.2 x4_2 p120 q120
                   cases e120
                   replace p120 := eq_true p120
                   replace q120 := eq_true q120
                   have p121 : 0 ≤ (x4_2 : Int) := of_decide_eq_true (by first | (with_reducible assumption) | assumption)
                   have q121 : x4_2 < (t115.length : Int) := of_decide_eq_true (by first | (with_reducible assumption) | assumption)
                   obtain ⟨ad121, e121, hx121_0⟩ := Kd.at_string (Kd.R_reads' zx.out).2.2 x4_2 p121 q121
                   obtain rfl : ad120 = ad121 := (by injection e121)
                   replace p121 := eq_true p121
                   replace q121 := eq_true q121
                   have p23 : 0 ≤ (x5_4 : Int) := of_decide_eq_true (by first | (with_reducible assumption) | assumption)
                   have q23 : x5_4 < ((rdOf ByteArray.empty t115 x4_2).size : Int) := of_decide_eq_true (by first | (with_reducible assumption) | assumption)
                   have hx23 := bt_at (rdOf ByteArray.empty t115 x4_2) x5_4
                   replace p23 := eq_true p23
                   replace q23 := eq_true q23
                   go_wp2_with (first | ((with_reducible refine zk (f := 63) rfl ?_); refine zv (some 56) rfl rfl Tryd.func63 (by kernel_rfl) rfl #[.int .u8 (bt (rdOf ByteArray.empty t115 x4_2) x5_4)] rfl (by (try simp only [List.map_toArray, List.map_cons, List.map_nil]); first | done | rfl) ?_; (with_reducible refine (spec_l3Letter.calls (bt (rdOf ByteArray.empty t115 x4_2) x5_4) true _ A24.out).mono ?_); rintro e w' ⟨rfl, ⟨nd, rfl⟩⟩; refine ⟨_, rfl, ?_⟩))
                   go_roundg k4
                   case measure => have := HJ2.out; have := HK2.out; have := HJ14.out; have := HK4.out; omega
                   case rel => exact ⟨(wrap64 (x5_4 + 1)), (by first | rfl | (simp; done) | (simp [*]; done)), H', ⟨by have := HJ2.out; have := HK2.out; have := HJ14.out; have := HK4.out; omega⟩, ⟨RL zx.out⟩, ⟨by repeat (first | (with_reducible first | exact HB.out | apply zg | apply zd | apply zf) | exact HB.out)⟩⟩
                  ·replace c25 := Bool.eq_false_iff.mpr c25
                   subst c25
                   have H1 : (some false) = some r := by rw [if_neg (show ¬ (false = true) by decide)] at H; exact H
                   clear H
                   have H := H1
                   clear H1
                   obtain rfl := Option.some.inj H
                   have p120 : 0 ≤ (x4_2 : Int) := of_decide_eq_true (by first | (with_reducible assumption) | assumption)
                   have q120 : x4_2 < (t115.length : Int) := of_decide_eq_true (by first | (with_reducible assumption) | assumption)
                   obtain ⟨ad120, e120, hx120_0⟩ := Kd.at_string (Kd.R_reads' zx.out).2.2 x4_2 p120 q120
                   cases e120
                   replace p120 := eq_true p120
                   replace q120 := eq_true q120
                   have p121 : 0 ≤ (x4_2 : Int) := of_decide_eq_true (by first | (with_reducible assumption) | assumption)
                   have q121 : x4_2 < (t115.length : Int) := of_decide_eq_true (by first | (with_reducible assumption) | assumption)
                   obtain ⟨ad121, e121, hx121_0⟩ := Kd.at_string (Kd.R_reads' zx.out).2.2 x4_2 p121 q121
                   obtain rfl : ad120 = ad121 := (by injection e121)
                   replace p121 := eq_true p121
                   replace q121 := eq_true q121
                   have p23 : 0 ≤ (x5_4 : Int) := of_decide_eq_true (by first | (with_reducible assumption) | assumption)
                   have q23 : x5_4 < ((rdOf ByteArray.empty t115 x4_2).size : Int) := of_decide_eq_true (by first | (with_reducible assumption) | assumption)
                   have hx23 := bt_at (rdOf ByteArray.empty t115 x4_2) x5_4
                   replace p23 := eq_true p23
                   replace q23 := eq_true q23
                   go_wp2_with (first | ((with_reducible refine zk (f := 63) rfl ?_); refine zv (some 56) rfl rfl Tryd.func63 (by kernel_rfl) rfl #[.int .u8 (bt (rdOf ByteArray.empty t115 x4_2) x5_4)] rfl (by (try simp only [List.map_toArray, List.map_cons, List.map_nil]); first | done | rfl) ?_; (with_reducible refine (spec_l3Letter.calls (bt (rdOf ByteArray.empty t115 x4_2) x5_4) false _ A24.out).mono ?_); rintro e w' ⟨rfl, ⟨nd, rfl⟩⟩; refine ⟨_, rfl, ?_⟩))
                   go_ret
                   exact ⟨by first | rfl | (simp [errW_none, errW_some] <;> rfl) | (simp [*, errW_none, errW_some] <;> rfl), by repeat (first | (with_reducible first | exact HB.out | apply zg | apply zd | apply zf) | exact HB.out)⟩
                 ·rw [if_neg c22] at H
                  exact absurd H (by simp)
                ·rw [if_neg c21] at H
                 have c21b0 : decide (x5_4 < ((rdOf ByteArray.empty t115 x4_2).size : Int)) = false := decide_eq_false c21
                 clear c21
                 have H' := Aside0.mk H
                 clear H
                 have p120 : 0 ≤ (x4_2 : Int) := of_decide_eq_true (by first | (with_reducible assumption) | assumption)
                 have q120 : x4_2 < (t115.length : Int) := of_decide_eq_true (by first | (with_reducible assumption) | assumption)
                 obtain ⟨ad120, e120, hx120_0⟩ := Kd.at_string (Kd.R_reads' zx.out).2.2 x4_2 p120 q120
                 cases e120
                 replace p120 := eq_true p120
                 replace q120 := eq_true q120
                 go_wp2
                 go_roundg k4
                 case measure => have := HJ2.out; have := HK2.out; have := HJ14.out; have := HK4.out; omega
                 case rel => exact ⟨(wrap64 (x4_2 + 1)), (by first | rfl | (simp; done) | (simp [*]; done)), H', ⟨by have := HJ2.out; have := HK2.out; have := HJ14.out; have := HK4.out; omega⟩, ⟨RL zx.out⟩, ⟨by repeat (first | (with_reducible first | exact HB.out | apply zg | apply zd | apply zf) | exact HB.out)⟩⟩
               ·rw [if_neg c20] at H
                exact absurd H (by simp)
              ·rw [if_neg c19] at H
               exact absurd H (by simp)
        ·rw [if_neg c14] at H
         have c14b0 : decide (x4_2 < (t115.length : Int)) = false := decide_eq_false c14
         clear c14
         obtain rfl := Option.some.inj H
         go_wp2
         go_ret
         exact ⟨by first | rfl | (simp [errW_none, errW_some] <;> rfl) | (simp [*, errW_none, errW_some] <;> rfl), by repeat (first | (with_reducible first | exact HB.out | apply zg | apply zd | apply zf) | exact HB.out)⟩

def spec_l3Stat.f (a0 : Int) : Option (Bool) := if a0 ≥ 0 then (some (decide (a0 ≤ 2147483647))) else (some false)
set_option maxHeartbeats 8000000 in
set_option maxRecDepth 100000 in
theorem spec_l3Stat.calls (a0 : Int) (r : Bool) (w : World) (h : spec_l3Stat.f a0 = some r) :
  Calls Tryd.prog 75 #[.int .i64 a0] w fun e w' => e = .returned (.bool r) ∧ Drawn0 w w' := by
 have H : (if a0 ≥ 0 then (some (decide (a0 ≤ 2147483647))) else (some false)) = some r := h
 clear h
 by_cases c2 : a0 ≥ 0
 ·rw [if_pos c2] at H
  have c2b0 : decide (0 ≤ a0) = true := decide_eq_true c2
  clear c2
  obtain rfl := Option.some.inj H
  go_enter Tryd.func75, Tryd.ntmps75
  go_wp2
  go_ret
  exact ⟨by first | rfl | (simp; done) | (simp [*]; done), by repeat (first | exact Drawn0.refl _ | apply Drawn0.step)⟩
 ·rw [if_neg c2] at H
  have c2b0 : decide (0 ≤ a0) = false := decide_eq_false c2
  clear c2
  obtain rfl := Option.some.inj H
  go_enter Tryd.func75, Tryd.ntmps75
  go_wp2
  go_ret
  exact ⟨by first | rfl | (simp; done) | (simp [*]; done), by repeat (first | exact Drawn0.refl _ | apply Drawn0.step)⟩

def spec_l3ValidNode.f (k : Nat) (a0_0 : ByteArray) (a0_1 : ByteArray) (a0_2 : Int) (a0_3 : Int) (a0_4 : Int) (a0_5 : Int) (a0_6 : Int) : Option (Bool) := (spec_ValidPath.f k a0_0).bind fun t124 => (if t124 = true then (if (a0_1.size : Int) ≤ 64 then ((spec_l3Stat.f a0_2).bind fun t125 => (if t125 = true then ((spec_l3Stat.f a0_3).bind fun t126 => (if t126 = true then ((spec_l3Stat.f a0_4).bind fun t127 => (if t127 = true then ((spec_l3Stat.f a0_5).bind fun t128 => (if t128 = true then ((spec_l3Stat.f a0_6).bind fun t129 => (some t129)) else (some false))) else (some false))) else (some false))) else (some false))) else (some false)) else (some false))
theorem spec_l3ValidNode.mono : ∀ a0 a1 a2 a3 a4 a5 a6 k, LeO (spec_l3ValidNode.f k a0 a1 a2 a3 a4 a5 a6) (spec_l3ValidNode.f (k + 1) a0 a1 a2 a3 a4 a5 a6) := by
 intro a0 a1 a2 a3 a4 a5 a6 k
 unfold spec_l3ValidNode.f
 repeat' first
   | (with_reducible exact spec_ValidPath.mono _ _)
   | (with_reducible exact LeO.refl _)
   | (with_reducible exact LeO.none _)
   | (with_reducible refine LeO.ite ?_ ?_)
   | (with_reducible refine LeO.bind ?_ (fun _ => ?_))
   | exact spec_ValidPath.mono _ _
   | exact LeO.none _
   | refine LeO.ite ?_ ?_
   | refine LeO.bind ?_ (fun _ => ?_)
set_option maxHeartbeats 8000000 in
set_option maxRecDepth 100000 in
theorem spec_l3ValidNode.calls (k : Nat) (a0_0 : ByteArray) (a0_1 : ByteArray) (a0_2 : Int) (a0_3 : Int) (a0_4 : Int) (a0_5 : Int) (a0_6 : Int) (r : Bool) (w : World) (h : spec_l3ValidNode.f k a0_0 a0_1 a0_2 a0_3 a0_4 a0_5 a0_6 = some r) :
  Calls Tryd.prog 51 #[.agg #[.string a0_0, .string a0_1, .int .i64 a0_2, .int .i64 a0_3, .int .i64 a0_4, .int .i64 a0_5, .int .i64 a0_6]] w fun e w' => e = .returned (.bool r) ∧ Below w.heap.size w w' := by
 have hu53 := Tryd.underlying53
 have HB := Aside0.mk (Below.refl w.heap.size w)
 have H : ((spec_ValidPath.f k a0_0).bind fun t124 => (if t124 = true then (if (a0_1.size : Int) ≤ 64 then ((spec_l3Stat.f a0_2).bind fun t125 => (if t125 = true then ((spec_l3Stat.f a0_3).bind fun t126 => (if t126 = true then ((spec_l3Stat.f a0_4).bind fun t127 => (if t127 = true then ((spec_l3Stat.f a0_5).bind fun t128 => (if t128 = true then ((spec_l3Stat.f a0_6).bind fun t129 => (some t129)) else (some false))) else (some false))) else (some false))) else (some false))) else (some false)) else (some false))) = some r := h
 clear h
 replace H := Option.bind_eq_some_iff.mp H
 obtain ⟨t124, A20, H⟩ := H
 replace H : (if t124 = true then (if (a0_1.size : Int) ≤ 64 then ((spec_l3Stat.f a0_2).bind fun t125 => (if t125 = true then ((spec_l3Stat.f a0_3).bind fun t126 => (if t126 = true then ((spec_l3Stat.f a0_4).bind fun t127 => (if t127 = true then ((spec_l3Stat.f a0_5).bind fun t128 => (if t128 = true then ((spec_l3Stat.f a0_6).bind fun t129 => (some t129)) else (some false))) else (some false))) else (some false))) else (some false))) else (some false)) else (some false)) = some r := H
 have A2 := Aside0.mk A20
 clear A20
 by_cases c3 : t124 = true
 ·subst c3
  have H1 : (if (a0_1.size : Int) ≤ 64 then ((spec_l3Stat.f a0_2).bind fun t125 => (if t125 = true then ((spec_l3Stat.f a0_3).bind fun t126 => (if t126 = true then ((spec_l3Stat.f a0_4).bind fun t127 => (if t127 = true then ((spec_l3Stat.f a0_5).bind fun t128 => (if t128 = true then ((spec_l3Stat.f a0_6).bind fun t129 => (some t129)) else (some false))) else (some false))) else (some false))) else (some false))) else (some false)) = some r := by rw [if_pos rfl] at H; exact H
  clear H
  have H := H1
  clear H1
  by_cases c4 : (a0_1.size : Int) ≤ 64
  ·rw [if_pos c4] at H
   have c4b0 : decide ((a0_1.size : Int) ≤ 64) = true := decide_eq_true c4
   have c4b1 : decide (a0_1.size ≤ 64) = true := decide_eq_true (by omega)
   clear c4
   replace H := Option.bind_eq_some_iff.mp H
   obtain ⟨t125, A50, H⟩ := H
   replace H : (if t125 = true then ((spec_l3Stat.f a0_3).bind fun t126 => (if t126 = true then ((spec_l3Stat.f a0_4).bind fun t127 => (if t127 = true then ((spec_l3Stat.f a0_5).bind fun t128 => (if t128 = true then ((spec_l3Stat.f a0_6).bind fun t129 => (some t129)) else (some false))) else (some false))) else (some false))) else (some false)) = some r := H
   have A5 := Aside0.mk A50
   clear A50
   by_cases c6 : t125 = true
   ·subst c6
    have H1 : ((spec_l3Stat.f a0_3).bind fun t126 => (if t126 = true then ((spec_l3Stat.f a0_4).bind fun t127 => (if t127 = true then ((spec_l3Stat.f a0_5).bind fun t128 => (if t128 = true then ((spec_l3Stat.f a0_6).bind fun t129 => (some t129)) else (some false))) else (some false))) else (some false))) = some r := by rw [if_pos rfl] at H; exact H
    clear H
    have H := H1
    clear H1
    replace H := Option.bind_eq_some_iff.mp H
    obtain ⟨t126, A70, H⟩ := H
    replace H : (if t126 = true then ((spec_l3Stat.f a0_4).bind fun t127 => (if t127 = true then ((spec_l3Stat.f a0_5).bind fun t128 => (if t128 = true then ((spec_l3Stat.f a0_6).bind fun t129 => (some t129)) else (some false))) else (some false))) else (some false)) = some r := H
    have A7 := Aside0.mk A70
    clear A70
    by_cases c8 : t126 = true
    ·subst c8
     have H1 : ((spec_l3Stat.f a0_4).bind fun t127 => (if t127 = true then ((spec_l3Stat.f a0_5).bind fun t128 => (if t128 = true then ((spec_l3Stat.f a0_6).bind fun t129 => (some t129)) else (some false))) else (some false))) = some r := by rw [if_pos rfl] at H; exact H
     clear H
     have H := H1
     clear H1
     replace H := Option.bind_eq_some_iff.mp H
     obtain ⟨t127, A90, H⟩ := H
     replace H : (if t127 = true then ((spec_l3Stat.f a0_5).bind fun t128 => (if t128 = true then ((spec_l3Stat.f a0_6).bind fun t129 => (some t129)) else (some false))) else (some false)) = some r := H
     have A9 := Aside0.mk A90
     clear A90
     by_cases c10 : t127 = true
     ·subst c10
      have H1 : ((spec_l3Stat.f a0_5).bind fun t128 => (if t128 = true then ((spec_l3Stat.f a0_6).bind fun t129 => (some t129)) else (some false))) = some r := by rw [if_pos rfl] at H; exact H
      clear H
      have H := H1
      clear H1
      replace H := Option.bind_eq_some_iff.mp H
      obtain ⟨t128, A110, H⟩ := H
      replace H : (if t128 = true then ((spec_l3Stat.f a0_6).bind fun t129 => (some t129)) else (some false)) = some r := H
      have A11 := Aside0.mk A110
      clear A110
      by_cases c12 : t128 = true
      ·subst c12
       have H1 : ((spec_l3Stat.f a0_6).bind fun t129 => (some t129)) = some r := by rw [if_pos rfl] at H; exact H
       clear H
       have H := H1
       clear H1
       replace H := Option.bind_eq_some_iff.mp H
       obtain ⟨t129, A130, H⟩ := H
       replace H : (some t129) = some r := H
       have A13 := Aside0.mk A130
       clear A130
       obtain rfl := Option.some.inj H
       go_enter Tryd.func51, Tryd.ntmps51
       go_wp2_with (first | ((with_reducible refine zu (N := 1) rfl ?_); (try (refine gate_guard (by rfl) ?_; dsimp only)); refine zs ?hg (N := 1) ?hd (cs := #[.string a0_0, .string a0_1, .int .i64 a0_2, .int .i64 a0_3, .int .i64 a0_4, .int .i64 a0_5, .int .i64 a0_6]) (t := 53) ?hr ?_; (case hd => rfl); (case hg => rfl); (case hr => first | (go_simp; done) | (go_simp; rfl)); intro zy hg w14 hbox hb; have n0_ := Aside0.mk (zi (by exact bl HB.out) hb); have n1_ := Aside0.mk (hbox); have n2_ := Aside0.mk ((by rw [hg]; exact (zh (by exact bl HB.out)) : w.heap.size ≤ zy)); have n3_ := Aside0.mk ((by rw [hg]; exact (zh (by exact bl HB.out)) : w.heap.size ≤ zy)); clear HB; have HB := n0_; have zx := n1_; have GW123 := n2_; have zz := n3_; clear n0_ n1_ n2_ n3_; clear hb hbox hg; have zA : w14.cell? ⟨zy, 0, none⟩ = some (.string a0_0) := (ze zx.out 0).trans rfl; have zB : w14.cell? ⟨zy, 1, none⟩ = some (.string a0_1) := (ze zx.out 1).trans rfl; have zC : w14.cell? ⟨zy, 2, none⟩ = some (.int .i64 a0_2) := (ze zx.out 2).trans rfl; have zD : w14.cell? ⟨zy, 3, none⟩ = some (.int .i64 a0_3) := (ze zx.out 3).trans rfl; have zE : w14.cell? ⟨zy, 4, none⟩ = some (.int .i64 a0_4) := (ze zx.out 4).trans rfl; have zF : w14.cell? ⟨zy, 5, none⟩ = some (.int .i64 a0_5) := (ze zx.out 5).trans rfl; have zG : w14.cell? ⟨zy, 6, none⟩ = some (.int .i64 a0_6) := (ze zx.out 6).trans rfl; have zH := zc zx.out 0; have zI := zc zx.out 1; have zJ := zc zx.out 2; have zK := zc zx.out 3; have zL := zc zx.out 4; have zM := zc zx.out 5; have zN := zc zx.out 6) | ((with_reducible refine zk (f := 40) rfl ?_); refine zv (some 5) rfl rfl Tryd.func40 (by kernel_rfl) rfl #[.string a0_0] rfl (by (try simp only [List.map_toArray, List.map_cons, List.map_nil]); first | done | rfl) ?_; (with_reducible refine (spec_ValidPath.calls k a0_0 true _ A2.out).mono ?_); rintro e w16 ⟨rfl, hb⟩; refine ⟨_, rfl, ?_⟩; have n0_ := Aside0.mk (zm (g := zy) (o := .cells #[.string a0_0, .string a0_1, .int .i64 a0_2, .int .i64 a0_3, .int .i64 a0_4, .int .i64 a0_5, .int .i64 a0_6] 53 (0, 0)) (BL zx.out) hb); have n1_ := Aside0.mk (zi (by exact bl HB.out) hb); clear zx; clear HB; have zx := n0_; have HB := n1_; clear n0_ n1_; (try clear hb); (try clear hb2); (try clear hk); (try clear hi); have zO : w16.cell? ⟨zy, 0, none⟩ = some (.string a0_0) := (ze zx.out 0).trans rfl; have zP : w16.cell? ⟨zy, 1, none⟩ = some (.string a0_1) := (ze zx.out 1).trans rfl; have zQ : w16.cell? ⟨zy, 2, none⟩ = some (.int .i64 a0_2) := (ze zx.out 2).trans rfl; have zR : w16.cell? ⟨zy, 3, none⟩ = some (.int .i64 a0_3) := (ze zx.out 3).trans rfl; have zS : w16.cell? ⟨zy, 4, none⟩ = some (.int .i64 a0_4) := (ze zx.out 4).trans rfl; have zT : w16.cell? ⟨zy, 5, none⟩ = some (.int .i64 a0_5) := (ze zx.out 5).trans rfl; have zU : w16.cell? ⟨zy, 6, none⟩ = some (.int .i64 a0_6) := (ze zx.out 6).trans rfl; have zV := zc zx.out 0; have zW := zc zx.out 1; have zX := zc zx.out 2; have zY := zc zx.out 3; have zZ := zc zx.out 4; have zab := zc zx.out 5; have zbb := zc zx.out 6) | (go_at_call 75; (with_reducible refine (spec_l3Stat.calls a0_2 true _ A5.out).mono ?_); rintro e w' ⟨rfl, ⟨nd, rfl⟩⟩) | (go_at_call 75; (with_reducible refine (spec_l3Stat.calls a0_3 true _ A7.out).mono ?_); rintro e w' ⟨rfl, ⟨nd, rfl⟩⟩) | (go_at_call 75; (with_reducible refine (spec_l3Stat.calls a0_4 true _ A9.out).mono ?_); rintro e w' ⟨rfl, ⟨nd, rfl⟩⟩) | (go_at_call 75; (with_reducible refine (spec_l3Stat.calls a0_5 true _ A11.out).mono ?_); rintro e w' ⟨rfl, ⟨nd, rfl⟩⟩) | (go_at_call 75; (with_reducible refine (spec_l3Stat.calls a0_6 t129 _ A13.out).mono ?_); rintro e w' ⟨rfl, ⟨nd, rfl⟩⟩))
       go_ret
       exact ⟨by first | rfl | (simp [errW_none, errW_some] <;> rfl) | (simp [*, errW_none, errW_some] <;> rfl), by repeat (first | (with_reducible first | exact HB.out | apply zg | apply zd | apply zf | refine zj ?_ zz.out) | exact HB.out)⟩
      ·replace c12 := Bool.eq_false_iff.mpr c12
       subst c12
       have H1 : (some false) = some r := by rw [if_neg (show ¬ (false = true) by decide)] at H; exact H
       clear H
       have H := H1
       clear H1
       obtain rfl := Option.some.inj H
       go_enter Tryd.func51, Tryd.ntmps51
       go_wp2_with (first | ((with_reducible refine zu (N := 1) rfl ?_); (try (refine gate_guard (by rfl) ?_; dsimp only)); refine zs ?hg (N := 1) ?hd (cs := #[.string a0_0, .string a0_1, .int .i64 a0_2, .int .i64 a0_3, .int .i64 a0_4, .int .i64 a0_5, .int .i64 a0_6]) (t := 53) ?hr ?_; (case hd => rfl); (case hg => rfl); (case hr => first | (go_simp; done) | (go_simp; rfl)); intro zy hg w18 hbox hb; have n0_ := Aside0.mk (zi (by exact bl HB.out) hb); have n1_ := Aside0.mk (hbox); have n2_ := Aside0.mk ((by rw [hg]; exact (zh (by exact bl HB.out)) : w.heap.size ≤ zy)); have n3_ := Aside0.mk ((by rw [hg]; exact (zh (by exact bl HB.out)) : w.heap.size ≤ zy)); clear HB; have HB := n0_; have zx := n1_; have GW123 := n2_; have zz := n3_; clear n0_ n1_ n2_ n3_; clear hb hbox hg; have zcb : w18.cell? ⟨zy, 0, none⟩ = some (.string a0_0) := (ze zx.out 0).trans rfl; have zdb : w18.cell? ⟨zy, 1, none⟩ = some (.string a0_1) := (ze zx.out 1).trans rfl; have zeb : w18.cell? ⟨zy, 2, none⟩ = some (.int .i64 a0_2) := (ze zx.out 2).trans rfl; have zfb : w18.cell? ⟨zy, 3, none⟩ = some (.int .i64 a0_3) := (ze zx.out 3).trans rfl; have zgb : w18.cell? ⟨zy, 4, none⟩ = some (.int .i64 a0_4) := (ze zx.out 4).trans rfl; have zhb : w18.cell? ⟨zy, 5, none⟩ = some (.int .i64 a0_5) := (ze zx.out 5).trans rfl; have zib : w18.cell? ⟨zy, 6, none⟩ = some (.int .i64 a0_6) := (ze zx.out 6).trans rfl; have zjb := zc zx.out 0; have zkb := zc zx.out 1; have zlb := zc zx.out 2; have zmb := zc zx.out 3; have znb := zc zx.out 4; have zob := zc zx.out 5; have zpb := zc zx.out 6) | ((with_reducible refine zk (f := 40) rfl ?_); refine zv (some 5) rfl rfl Tryd.func40 (by kernel_rfl) rfl #[.string a0_0] rfl (by (try simp only [List.map_toArray, List.map_cons, List.map_nil]); first | done | rfl) ?_; (with_reducible refine (spec_ValidPath.calls k a0_0 true _ A2.out).mono ?_); rintro e w20 ⟨rfl, hb⟩; refine ⟨_, rfl, ?_⟩; have n0_ := Aside0.mk (zm (g := zy) (o := .cells #[.string a0_0, .string a0_1, .int .i64 a0_2, .int .i64 a0_3, .int .i64 a0_4, .int .i64 a0_5, .int .i64 a0_6] 53 (0, 0)) (BL zx.out) hb); have n1_ := Aside0.mk (zi (by exact bl HB.out) hb); clear zx; clear HB; have zx := n0_; have HB := n1_; clear n0_ n1_; (try clear hb); (try clear hb2); (try clear hk); (try clear hi); have zqb : w20.cell? ⟨zy, 0, none⟩ = some (.string a0_0) := (ze zx.out 0).trans rfl; have zrb : w20.cell? ⟨zy, 1, none⟩ = some (.string a0_1) := (ze zx.out 1).trans rfl; have zsb : w20.cell? ⟨zy, 2, none⟩ = some (.int .i64 a0_2) := (ze zx.out 2).trans rfl; have ztb : w20.cell? ⟨zy, 3, none⟩ = some (.int .i64 a0_3) := (ze zx.out 3).trans rfl; have zub : w20.cell? ⟨zy, 4, none⟩ = some (.int .i64 a0_4) := (ze zx.out 4).trans rfl; have zvb : w20.cell? ⟨zy, 5, none⟩ = some (.int .i64 a0_5) := (ze zx.out 5).trans rfl; have zwb : w20.cell? ⟨zy, 6, none⟩ = some (.int .i64 a0_6) := (ze zx.out 6).trans rfl; have zxb := zc zx.out 0; have zyb := zc zx.out 1; have zzb := zc zx.out 2; have zAb := zc zx.out 3; have zBb := zc zx.out 4; have zCb := zc zx.out 5; have zDb := zc zx.out 6) | (go_at_call 75; (with_reducible refine (spec_l3Stat.calls a0_2 true _ A5.out).mono ?_); rintro e w' ⟨rfl, ⟨nd, rfl⟩⟩) | (go_at_call 75; (with_reducible refine (spec_l3Stat.calls a0_3 true _ A7.out).mono ?_); rintro e w' ⟨rfl, ⟨nd, rfl⟩⟩) | (go_at_call 75; (with_reducible refine (spec_l3Stat.calls a0_4 true _ A9.out).mono ?_); rintro e w' ⟨rfl, ⟨nd, rfl⟩⟩) | (go_at_call 75; (with_reducible refine (spec_l3Stat.calls a0_5 false _ A11.out).mono ?_); rintro e w' ⟨rfl, ⟨nd, rfl⟩⟩))
       go_ret
       exact ⟨by first | rfl | (simp [errW_none, errW_some] <;> rfl) | (simp [*, errW_none, errW_some] <;> rfl), by repeat (first | (with_reducible first | exact HB.out | apply zg | apply zd | apply zf | refine zj ?_ zz.out) | exact HB.out)⟩
     ·replace c10 := Bool.eq_false_iff.mpr c10
      subst c10
      have H1 : (some false) = some r := by rw [if_neg (show ¬ (false = true) by decide)] at H; exact H
      clear H
      have H := H1
      clear H1
      obtain rfl := Option.some.inj H
      go_enter Tryd.func51, Tryd.ntmps51
      go_wp2_with (first | ((with_reducible refine zu (N := 1) rfl ?_); (try (refine gate_guard (by rfl) ?_; dsimp only)); refine zs ?hg (N := 1) ?hd (cs := #[.string a0_0, .string a0_1, .int .i64 a0_2, .int .i64 a0_3, .int .i64 a0_4, .int .i64 a0_5, .int .i64 a0_6]) (t := 53) ?hr ?_; (case hd => rfl); (case hg => rfl); (case hr => first | (go_simp; done) | (go_simp; rfl)); intro zy hg w22 hbox hb; have n0_ := Aside0.mk (zi (by exact bl HB.out) hb); have n1_ := Aside0.mk (hbox); have n2_ := Aside0.mk ((by rw [hg]; exact (zh (by exact bl HB.out)) : w.heap.size ≤ zy)); have n3_ := Aside0.mk ((by rw [hg]; exact (zh (by exact bl HB.out)) : w.heap.size ≤ zy)); clear HB; have HB := n0_; have zx := n1_; have GW123 := n2_; have zz := n3_; clear n0_ n1_ n2_ n3_; clear hb hbox hg; have zEb : w22.cell? ⟨zy, 0, none⟩ = some (.string a0_0) := (ze zx.out 0).trans rfl; have zFb : w22.cell? ⟨zy, 1, none⟩ = some (.string a0_1) := (ze zx.out 1).trans rfl; have zGb : w22.cell? ⟨zy, 2, none⟩ = some (.int .i64 a0_2) := (ze zx.out 2).trans rfl; have zHb : w22.cell? ⟨zy, 3, none⟩ = some (.int .i64 a0_3) := (ze zx.out 3).trans rfl; have zIb : w22.cell? ⟨zy, 4, none⟩ = some (.int .i64 a0_4) := (ze zx.out 4).trans rfl; have zJb : w22.cell? ⟨zy, 5, none⟩ = some (.int .i64 a0_5) := (ze zx.out 5).trans rfl; have zKb : w22.cell? ⟨zy, 6, none⟩ = some (.int .i64 a0_6) := (ze zx.out 6).trans rfl; have zLb := zc zx.out 0; have zMb := zc zx.out 1; have zNb := zc zx.out 2; have zOb := zc zx.out 3; have zPb := zc zx.out 4; have zQb := zc zx.out 5; have zRb := zc zx.out 6) | ((with_reducible refine zk (f := 40) rfl ?_); refine zv (some 5) rfl rfl Tryd.func40 (by kernel_rfl) rfl #[.string a0_0] rfl (by (try simp only [List.map_toArray, List.map_cons, List.map_nil]); first | done | rfl) ?_; (with_reducible refine (spec_ValidPath.calls k a0_0 true _ A2.out).mono ?_); rintro e w24 ⟨rfl, hb⟩; refine ⟨_, rfl, ?_⟩; have n0_ := Aside0.mk (zm (g := zy) (o := .cells #[.string a0_0, .string a0_1, .int .i64 a0_2, .int .i64 a0_3, .int .i64 a0_4, .int .i64 a0_5, .int .i64 a0_6] 53 (0, 0)) (BL zx.out) hb); have n1_ := Aside0.mk (zi (by exact bl HB.out) hb); clear zx; clear HB; have zx := n0_; have HB := n1_; clear n0_ n1_; (try clear hb); (try clear hb2); (try clear hk); (try clear hi); have zSb : w24.cell? ⟨zy, 0, none⟩ = some (.string a0_0) := (ze zx.out 0).trans rfl; have zTb : w24.cell? ⟨zy, 1, none⟩ = some (.string a0_1) := (ze zx.out 1).trans rfl; have zUb : w24.cell? ⟨zy, 2, none⟩ = some (.int .i64 a0_2) := (ze zx.out 2).trans rfl; have zVb : w24.cell? ⟨zy, 3, none⟩ = some (.int .i64 a0_3) := (ze zx.out 3).trans rfl; have zWb : w24.cell? ⟨zy, 4, none⟩ = some (.int .i64 a0_4) := (ze zx.out 4).trans rfl; have zXb : w24.cell? ⟨zy, 5, none⟩ = some (.int .i64 a0_5) := (ze zx.out 5).trans rfl; have zYb : w24.cell? ⟨zy, 6, none⟩ = some (.int .i64 a0_6) := (ze zx.out 6).trans rfl; have zZb := zc zx.out 0; have zac := zc zx.out 1; have zbc := zc zx.out 2; have zcc := zc zx.out 3; have zdc := zc zx.out 4; have zec := zc zx.out 5; have zfc := zc zx.out 6) | (go_at_call 75; (with_reducible refine (spec_l3Stat.calls a0_2 true _ A5.out).mono ?_); rintro e w' ⟨rfl, ⟨nd, rfl⟩⟩) | (go_at_call 75; (with_reducible refine (spec_l3Stat.calls a0_3 true _ A7.out).mono ?_); rintro e w' ⟨rfl, ⟨nd, rfl⟩⟩) | (go_at_call 75; (with_reducible refine (spec_l3Stat.calls a0_4 false _ A9.out).mono ?_); rintro e w' ⟨rfl, ⟨nd, rfl⟩⟩))
      go_ret
      exact ⟨by first | rfl | (simp [errW_none, errW_some] <;> rfl) | (simp [*, errW_none, errW_some] <;> rfl), by repeat (first | (with_reducible first | exact HB.out | apply zg | apply zd | apply zf | refine zj ?_ zz.out) | exact HB.out)⟩
    ·replace c8 := Bool.eq_false_iff.mpr c8
     subst c8
     have H1 : (some false) = some r := by rw [if_neg (show ¬ (false = true) by decide)] at H; exact H
     clear H
     have H := H1
     clear H1
     obtain rfl := Option.some.inj H
     go_enter Tryd.func51, Tryd.ntmps51
     go_wp2_with (first | ((with_reducible refine zu (N := 1) rfl ?_); (try (refine gate_guard (by rfl) ?_; dsimp only)); refine zs ?hg (N := 1) ?hd (cs := #[.string a0_0, .string a0_1, .int .i64 a0_2, .int .i64 a0_3, .int .i64 a0_4, .int .i64 a0_5, .int .i64 a0_6]) (t := 53) ?hr ?_; (case hd => rfl); (case hg => rfl); (case hr => first | (go_simp; done) | (go_simp; rfl)); intro zy hg w26 hbox hb; have n0_ := Aside0.mk (zi (by exact bl HB.out) hb); have n1_ := Aside0.mk (hbox); have n2_ := Aside0.mk ((by rw [hg]; exact (zh (by exact bl HB.out)) : w.heap.size ≤ zy)); have n3_ := Aside0.mk ((by rw [hg]; exact (zh (by exact bl HB.out)) : w.heap.size ≤ zy)); clear HB; have HB := n0_; have zx := n1_; have GW123 := n2_; have zz := n3_; clear n0_ n1_ n2_ n3_; clear hb hbox hg; have zgc : w26.cell? ⟨zy, 0, none⟩ = some (.string a0_0) := (ze zx.out 0).trans rfl; have zhc : w26.cell? ⟨zy, 1, none⟩ = some (.string a0_1) := (ze zx.out 1).trans rfl; have zic : w26.cell? ⟨zy, 2, none⟩ = some (.int .i64 a0_2) := (ze zx.out 2).trans rfl; have zjc : w26.cell? ⟨zy, 3, none⟩ = some (.int .i64 a0_3) := (ze zx.out 3).trans rfl; have zkc : w26.cell? ⟨zy, 4, none⟩ = some (.int .i64 a0_4) := (ze zx.out 4).trans rfl; have zlc : w26.cell? ⟨zy, 5, none⟩ = some (.int .i64 a0_5) := (ze zx.out 5).trans rfl; have zmc : w26.cell? ⟨zy, 6, none⟩ = some (.int .i64 a0_6) := (ze zx.out 6).trans rfl; have znc := zc zx.out 0; have zoc := zc zx.out 1; have zpc := zc zx.out 2; have zqc := zc zx.out 3; have zrc := zc zx.out 4; have zsc := zc zx.out 5; have ztc := zc zx.out 6) | ((with_reducible refine zk (f := 40) rfl ?_); refine zv (some 5) rfl rfl Tryd.func40 (by kernel_rfl) rfl #[.string a0_0] rfl (by (try simp only [List.map_toArray, List.map_cons, List.map_nil]); first | done | rfl) ?_; (with_reducible refine (spec_ValidPath.calls k a0_0 true _ A2.out).mono ?_); rintro e w28 ⟨rfl, hb⟩; refine ⟨_, rfl, ?_⟩; have n0_ := Aside0.mk (zm (g := zy) (o := .cells #[.string a0_0, .string a0_1, .int .i64 a0_2, .int .i64 a0_3, .int .i64 a0_4, .int .i64 a0_5, .int .i64 a0_6] 53 (0, 0)) (BL zx.out) hb); have n1_ := Aside0.mk (zi (by exact bl HB.out) hb); clear zx; clear HB; have zx := n0_; have HB := n1_; clear n0_ n1_; (try clear hb); (try clear hb2); (try clear hk); (try clear hi); have zuc : w28.cell? ⟨zy, 0, none⟩ = some (.string a0_0) := (ze zx.out 0).trans rfl; have zvc : w28.cell? ⟨zy, 1, none⟩ = some (.string a0_1) := (ze zx.out 1).trans rfl; have zwc : w28.cell? ⟨zy, 2, none⟩ = some (.int .i64 a0_2) := (ze zx.out 2).trans rfl; have zxc : w28.cell? ⟨zy, 3, none⟩ = some (.int .i64 a0_3) := (ze zx.out 3).trans rfl; have zyc : w28.cell? ⟨zy, 4, none⟩ = some (.int .i64 a0_4) := (ze zx.out 4).trans rfl; have zzc : w28.cell? ⟨zy, 5, none⟩ = some (.int .i64 a0_5) := (ze zx.out 5).trans rfl; have zAc : w28.cell? ⟨zy, 6, none⟩ = some (.int .i64 a0_6) := (ze zx.out 6).trans rfl; have zBc := zc zx.out 0; have zCc := zc zx.out 1; have zDc := zc zx.out 2; have zEc := zc zx.out 3; have zFc := zc zx.out 4; have zGc := zc zx.out 5; have zHc := zc zx.out 6) | (go_at_call 75; (with_reducible refine (spec_l3Stat.calls a0_2 true _ A5.out).mono ?_); rintro e w' ⟨rfl, ⟨nd, rfl⟩⟩) | (go_at_call 75; (with_reducible refine (spec_l3Stat.calls a0_3 false _ A7.out).mono ?_); rintro e w' ⟨rfl, ⟨nd, rfl⟩⟩))
     go_ret
     exact ⟨by first | rfl | (simp [errW_none, errW_some] <;> rfl) | (simp [*, errW_none, errW_some] <;> rfl), by repeat (first | (with_reducible first | exact HB.out | apply zg | apply zd | apply zf | refine zj ?_ zz.out) | exact HB.out)⟩
   ·replace c6 := Bool.eq_false_iff.mpr c6
    subst c6
    have H1 : (some false) = some r := by rw [if_neg (show ¬ (false = true) by decide)] at H; exact H
    clear H
    have H := H1
    clear H1
    obtain rfl := Option.some.inj H
    go_enter Tryd.func51, Tryd.ntmps51
    go_wp2_with (first | ((with_reducible refine zu (N := 1) rfl ?_); (try (refine gate_guard (by rfl) ?_; dsimp only)); refine zs ?hg (N := 1) ?hd (cs := #[.string a0_0, .string a0_1, .int .i64 a0_2, .int .i64 a0_3, .int .i64 a0_4, .int .i64 a0_5, .int .i64 a0_6]) (t := 53) ?hr ?_; (case hd => rfl); (case hg => rfl); (case hr => first | (go_simp; done) | (go_simp; rfl)); intro zy hg w30 hbox hb; have n0_ := Aside0.mk (zi (by exact bl HB.out) hb); have n1_ := Aside0.mk (hbox); have n2_ := Aside0.mk ((by rw [hg]; exact (zh (by exact bl HB.out)) : w.heap.size ≤ zy)); have n3_ := Aside0.mk ((by rw [hg]; exact (zh (by exact bl HB.out)) : w.heap.size ≤ zy)); clear HB; have HB := n0_; have zx := n1_; have GW123 := n2_; have zz := n3_; clear n0_ n1_ n2_ n3_; clear hb hbox hg; have zIc : w30.cell? ⟨zy, 0, none⟩ = some (.string a0_0) := (ze zx.out 0).trans rfl; have zJc : w30.cell? ⟨zy, 1, none⟩ = some (.string a0_1) := (ze zx.out 1).trans rfl; have zKc : w30.cell? ⟨zy, 2, none⟩ = some (.int .i64 a0_2) := (ze zx.out 2).trans rfl; have zLc : w30.cell? ⟨zy, 3, none⟩ = some (.int .i64 a0_3) := (ze zx.out 3).trans rfl; have zMc : w30.cell? ⟨zy, 4, none⟩ = some (.int .i64 a0_4) := (ze zx.out 4).trans rfl; have zNc : w30.cell? ⟨zy, 5, none⟩ = some (.int .i64 a0_5) := (ze zx.out 5).trans rfl; have zOc : w30.cell? ⟨zy, 6, none⟩ = some (.int .i64 a0_6) := (ze zx.out 6).trans rfl; have zPc := zc zx.out 0; have zQc := zc zx.out 1; have zRc := zc zx.out 2; have zSc := zc zx.out 3; have zTc := zc zx.out 4; have zUc := zc zx.out 5; have zVc := zc zx.out 6) | ((with_reducible refine zk (f := 40) rfl ?_); refine zv (some 5) rfl rfl Tryd.func40 (by kernel_rfl) rfl #[.string a0_0] rfl (by (try simp only [List.map_toArray, List.map_cons, List.map_nil]); first | done | rfl) ?_; (with_reducible refine (spec_ValidPath.calls k a0_0 true _ A2.out).mono ?_); rintro e w32 ⟨rfl, hb⟩; refine ⟨_, rfl, ?_⟩; have n0_ := Aside0.mk (zm (g := zy) (o := .cells #[.string a0_0, .string a0_1, .int .i64 a0_2, .int .i64 a0_3, .int .i64 a0_4, .int .i64 a0_5, .int .i64 a0_6] 53 (0, 0)) (BL zx.out) hb); have n1_ := Aside0.mk (zi (by exact bl HB.out) hb); clear zx; clear HB; have zx := n0_; have HB := n1_; clear n0_ n1_; (try clear hb); (try clear hb2); (try clear hk); (try clear hi); have zWc : w32.cell? ⟨zy, 0, none⟩ = some (.string a0_0) := (ze zx.out 0).trans rfl; have zXc : w32.cell? ⟨zy, 1, none⟩ = some (.string a0_1) := (ze zx.out 1).trans rfl; have zYc : w32.cell? ⟨zy, 2, none⟩ = some (.int .i64 a0_2) := (ze zx.out 2).trans rfl; have zZc : w32.cell? ⟨zy, 3, none⟩ = some (.int .i64 a0_3) := (ze zx.out 3).trans rfl; have zad : w32.cell? ⟨zy, 4, none⟩ = some (.int .i64 a0_4) := (ze zx.out 4).trans rfl; have zbd : w32.cell? ⟨zy, 5, none⟩ = some (.int .i64 a0_5) := (ze zx.out 5).trans rfl; have zcd : w32.cell? ⟨zy, 6, none⟩ = some (.int .i64 a0_6) := (ze zx.out 6).trans rfl; have zdd := zc zx.out 0; have zed := zc zx.out 1; have zfd := zc zx.out 2; have zgd := zc zx.out 3; have zhd := zc zx.out 4; have zid := zc zx.out 5; have zjd := zc zx.out 6) | (go_at_call 75; (with_reducible refine (spec_l3Stat.calls a0_2 false _ A5.out).mono ?_); rintro e w' ⟨rfl, ⟨nd, rfl⟩⟩))
    go_ret
    exact ⟨by first | rfl | (simp [errW_none, errW_some] <;> rfl) | (simp [*, errW_none, errW_some] <;> rfl), by repeat (first | (with_reducible first | exact HB.out | apply zg | apply zd | apply zf | refine zj ?_ zz.out) | exact HB.out)⟩
  ·rw [if_neg c4] at H
   have c4b0 : decide ((a0_1.size : Int) ≤ 64) = false := decide_eq_false c4
   have c4b1 : decide (a0_1.size ≤ 64) = false := decide_eq_false (by omega)
   clear c4
   obtain rfl := Option.some.inj H
   go_enter Tryd.func51, Tryd.ntmps51
   go_wp2_with (first | ((with_reducible refine zu (N := 1) rfl ?_); (try (refine gate_guard (by rfl) ?_; dsimp only)); refine zs ?hg (N := 1) ?hd (cs := #[.string a0_0, .string a0_1, .int .i64 a0_2, .int .i64 a0_3, .int .i64 a0_4, .int .i64 a0_5, .int .i64 a0_6]) (t := 53) ?hr ?_; (case hd => rfl); (case hg => rfl); (case hr => first | (go_simp; done) | (go_simp; rfl)); intro zy hg w34 hbox hb; have n0_ := Aside0.mk (zi (by exact bl HB.out) hb); have n1_ := Aside0.mk (hbox); have n2_ := Aside0.mk ((by rw [hg]; exact (zh (by exact bl HB.out)) : w.heap.size ≤ zy)); have n3_ := Aside0.mk ((by rw [hg]; exact (zh (by exact bl HB.out)) : w.heap.size ≤ zy)); clear HB; have HB := n0_; have zx := n1_; have GW123 := n2_; have zz := n3_; clear n0_ n1_ n2_ n3_; clear hb hbox hg; have zkd : w34.cell? ⟨zy, 0, none⟩ = some (.string a0_0) := (ze zx.out 0).trans rfl; have zld : w34.cell? ⟨zy, 1, none⟩ = some (.string a0_1) := (ze zx.out 1).trans rfl; have zmd : w34.cell? ⟨zy, 2, none⟩ = some (.int .i64 a0_2) := (ze zx.out 2).trans rfl; have znd : w34.cell? ⟨zy, 3, none⟩ = some (.int .i64 a0_3) := (ze zx.out 3).trans rfl; have zod : w34.cell? ⟨zy, 4, none⟩ = some (.int .i64 a0_4) := (ze zx.out 4).trans rfl; have zpd : w34.cell? ⟨zy, 5, none⟩ = some (.int .i64 a0_5) := (ze zx.out 5).trans rfl; have zqd : w34.cell? ⟨zy, 6, none⟩ = some (.int .i64 a0_6) := (ze zx.out 6).trans rfl; have zrd := zc zx.out 0; have zsd := zc zx.out 1; have ztd := zc zx.out 2; have zud := zc zx.out 3; have zvd := zc zx.out 4; have zwd := zc zx.out 5; have zxd := zc zx.out 6) | ((with_reducible refine zk (f := 40) rfl ?_); refine zv (some 5) rfl rfl Tryd.func40 (by kernel_rfl) rfl #[.string a0_0] rfl (by (try simp only [List.map_toArray, List.map_cons, List.map_nil]); first | done | rfl) ?_; (with_reducible refine (spec_ValidPath.calls k a0_0 true _ A2.out).mono ?_); rintro e w36 ⟨rfl, hb⟩; refine ⟨_, rfl, ?_⟩; have n0_ := Aside0.mk (zm (g := zy) (o := .cells #[.string a0_0, .string a0_1, .int .i64 a0_2, .int .i64 a0_3, .int .i64 a0_4, .int .i64 a0_5, .int .i64 a0_6] 53 (0, 0)) (BL zx.out) hb); have n1_ := Aside0.mk (zi (by exact bl HB.out) hb); clear zx; clear HB; have zx := n0_; have HB := n1_; clear n0_ n1_; (try clear hb); (try clear hb2); (try clear hk); (try clear hi); have zyd : w36.cell? ⟨zy, 0, none⟩ = some (.string a0_0) := (ze zx.out 0).trans rfl; have zzd : w36.cell? ⟨zy, 1, none⟩ = some (.string a0_1) := (ze zx.out 1).trans rfl; have zAd : w36.cell? ⟨zy, 2, none⟩ = some (.int .i64 a0_2) := (ze zx.out 2).trans rfl; have zBd : w36.cell? ⟨zy, 3, none⟩ = some (.int .i64 a0_3) := (ze zx.out 3).trans rfl; have zCd : w36.cell? ⟨zy, 4, none⟩ = some (.int .i64 a0_4) := (ze zx.out 4).trans rfl; have zDd : w36.cell? ⟨zy, 5, none⟩ = some (.int .i64 a0_5) := (ze zx.out 5).trans rfl; have zEd : w36.cell? ⟨zy, 6, none⟩ = some (.int .i64 a0_6) := (ze zx.out 6).trans rfl; have zFd := zc zx.out 0; have zGd := zc zx.out 1; have zHd := zc zx.out 2; have zId := zc zx.out 3; have zJd := zc zx.out 4; have zKd := zc zx.out 5; have zLd := zc zx.out 6))
   go_ret
   exact ⟨by first | rfl | (simp [errW_none, errW_some] <;> rfl) | (simp [*, errW_none, errW_some] <;> rfl), by repeat (first | (with_reducible first | exact HB.out | apply zg | apply zd | apply zf | refine zj ?_ zz.out) | exact HB.out)⟩
 ·replace c3 := Bool.eq_false_iff.mpr c3
  subst c3
  have H1 : (some false) = some r := by rw [if_neg (show ¬ (false = true) by decide)] at H; exact H
  clear H
  have H := H1
  clear H1
  obtain rfl := Option.some.inj H
  go_enter Tryd.func51, Tryd.ntmps51
  go_wp2_with (first | ((with_reducible refine zu (N := 1) rfl ?_); (try (refine gate_guard (by rfl) ?_; dsimp only)); refine zs ?hg (N := 1) ?hd (cs := #[.string a0_0, .string a0_1, .int .i64 a0_2, .int .i64 a0_3, .int .i64 a0_4, .int .i64 a0_5, .int .i64 a0_6]) (t := 53) ?hr ?_; (case hd => rfl); (case hg => rfl); (case hr => first | (go_simp; done) | (go_simp; rfl)); intro zy hg w38 hbox hb; have n0_ := Aside0.mk (zi (by exact bl HB.out) hb); have n1_ := Aside0.mk (hbox); have n2_ := Aside0.mk ((by rw [hg]; exact (zh (by exact bl HB.out)) : w.heap.size ≤ zy)); have n3_ := Aside0.mk ((by rw [hg]; exact (zh (by exact bl HB.out)) : w.heap.size ≤ zy)); clear HB; have HB := n0_; have zx := n1_; have GW123 := n2_; have zz := n3_; clear n0_ n1_ n2_ n3_; clear hb hbox hg; have zMd : w38.cell? ⟨zy, 0, none⟩ = some (.string a0_0) := (ze zx.out 0).trans rfl; have zNd : w38.cell? ⟨zy, 1, none⟩ = some (.string a0_1) := (ze zx.out 1).trans rfl; have zOd : w38.cell? ⟨zy, 2, none⟩ = some (.int .i64 a0_2) := (ze zx.out 2).trans rfl; have zPd : w38.cell? ⟨zy, 3, none⟩ = some (.int .i64 a0_3) := (ze zx.out 3).trans rfl; have zQd : w38.cell? ⟨zy, 4, none⟩ = some (.int .i64 a0_4) := (ze zx.out 4).trans rfl; have zRd : w38.cell? ⟨zy, 5, none⟩ = some (.int .i64 a0_5) := (ze zx.out 5).trans rfl; have zSd : w38.cell? ⟨zy, 6, none⟩ = some (.int .i64 a0_6) := (ze zx.out 6).trans rfl; have zTd := zc zx.out 0; have zUd := zc zx.out 1; have zVd := zc zx.out 2; have zWd := zc zx.out 3; have zXd := zc zx.out 4; have zYd := zc zx.out 5; have zZd := zc zx.out 6) | ((with_reducible refine zk (f := 40) rfl ?_); refine zv (some 5) rfl rfl Tryd.func40 (by kernel_rfl) rfl #[.string a0_0] rfl (by (try simp only [List.map_toArray, List.map_cons, List.map_nil]); first | done | rfl) ?_; (with_reducible refine (spec_ValidPath.calls k a0_0 false _ A2.out).mono ?_); rintro e w40 ⟨rfl, hb⟩; refine ⟨_, rfl, ?_⟩; have n0_ := Aside0.mk (zm (g := zy) (o := .cells #[.string a0_0, .string a0_1, .int .i64 a0_2, .int .i64 a0_3, .int .i64 a0_4, .int .i64 a0_5, .int .i64 a0_6] 53 (0, 0)) (BL zx.out) hb); have n1_ := Aside0.mk (zi (by exact bl HB.out) hb); clear zx; clear HB; have zx := n0_; have HB := n1_; clear n0_ n1_; (try clear hb); (try clear hb2); (try clear hk); (try clear hi)))
  go_ret
  exact ⟨by first | rfl | (simp [errW_none, errW_some] <;> rfl) | (simp [*, errW_none, errW_some] <;> rfl), by repeat (first | (with_reducible first | exact HB.out | apply zg | apply zd | apply zf | refine zj ?_ zz.out) | exact HB.out)⟩

end Go.Proofs.YtejecjjimggjeaaDoor.GFnExactChildren
