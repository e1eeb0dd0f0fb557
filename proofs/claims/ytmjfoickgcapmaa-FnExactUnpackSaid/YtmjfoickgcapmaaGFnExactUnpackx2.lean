/- Written by give.py, a program of this session, that runs the kit's print and lays contracts proved by hand beside it. -/
import Derived.Test.YtmjfoickgcapmaaGFnExactUnpackx0
import Derived.Test.YtmjfoickgcapmaaGFnExactUnpackx1
namespace Go.Proofs.Ytmjfoickgcapmaa.GFnExactUnpack
open Go.RowKit Go.Proofs.YtmjfoickgcapmaaW.PrintWords Go.Proofs.YtmjfoickgcapmaaW.PrintLast Go.Proofs.YtmjfoickgcapmaaW.PrintMore
attribute [local go_sem] max2_int min2_int max_two min_two max_three min_three max_four min_four   -- for this text's walks alone
set_option linter.unusedVariables false
set_option linter.unusedSimpArgs false

/-! ### spec_Unpack: function 33 -/
mutual
def spec_Unpack.l0 : Nat → List Int → List Int → List Int → Int → Option (List Int)
  | 0, _, _, _, _ => none
  | k + 1, x0, x3, x4, x5 => if (wrap64 (x5 + 8)) ≤ (x3.length : Int) then (spec_Unpack.l1 k x0 x3 x4 x5 0 x5) else ((spec_Pack.f k x4).bind fun t137 => ((spec_l2SameBytes.f t137 x0).bind fun t140 => (if t140 = true then (some x4) else (some ([] : List Int)))))
def spec_Unpack.l1 : Nat → List Int → List Int → List Int → Int → Int → Int → Option (List Int)
  | 0, _, _, _, _, _, _ => none
  | k + 1, x0, x3, x4, x5, x6, x7 => if x7 < (wrap64 (x5 + 8)) then (if 0 ≤ x7 then (if x7 < (x3.length : Int) then (spec_Unpack.l1 k x0 x3 x4 x5 (wrap64 ((wrap64 (2 * x6)) + (rd x3 x7))) (wrap64 (x7 + 1))) else (none)) else (none)) else (if x4.length < 140737488355328 then (spec_Unpack.l0 k x0 x3 (x4 ++ [(x6) % 256]) (wrap64 (x5 + 8))) else (none))
end
def spec_Unpack.f (k : Nat) (l0 : List Int) : Option (List Int) := (spec_l2Bits.f k l0 7).bind fun t127 => (spec_Unpack.l0 k l0 t127 (([] : List Int)) 0)
theorem spec_Unpack.mono_l : ∀ k, (∀ y0 y1 y2 y3, LeO (spec_Unpack.l0 k y0 y1 y2 y3) (spec_Unpack.l0 (k + 1) y0 y1 y2 y3)) ∧ (∀ y0 y1 y2 y3 y4 y5, LeO (spec_Unpack.l1 k y0 y1 y2 y3 y4 y5) (spec_Unpack.l1 (k + 1) y0 y1 y2 y3 y4 y5))
  | 0 => ⟨fun _ _ _ _ r h => by simp [spec_Unpack.l0] at h, fun _ _ _ _ _ _ r h => by simp [spec_Unpack.l1] at h⟩
  | k + 1 => by
    obtain ⟨ih0, ih1⟩ := spec_Unpack.mono_l k
    refine ⟨?_, ?_⟩
    · intro y0 y1 y2 y3
      unfold spec_Unpack.l0
      repeat' first
      | (with_reducible exact ih0 _ _ _ _)
      | (with_reducible exact ih1 _ _ _ _ _ _)
      | (with_reducible exact spec_Pack.mono _ _)
      | (with_reducible exact spec_l2Bits.mono _ _ _)
      | (with_reducible exact LeO.refl _)
      | (with_reducible exact LeO.none _)
      | (with_reducible refine LeO.ite ?_ ?_)
      | (with_reducible refine LeO.bind ?_ (fun _ => ?_))
      | exact ih0 _ _ _ _
      | exact ih1 _ _ _ _ _ _
      | exact spec_Pack.mono _ _
      | exact spec_l2Bits.mono _ _ _
      | exact LeO.none _
      | refine LeO.ite ?_ ?_
      | refine LeO.bind ?_ (fun _ => ?_)
    · intro y0 y1 y2 y3 y4 y5
      unfold spec_Unpack.l1
      repeat' first
      | (with_reducible exact ih0 _ _ _ _)
      | (with_reducible exact ih1 _ _ _ _ _ _)
      | (with_reducible exact spec_Pack.mono _ _)
      | (with_reducible exact spec_l2Bits.mono _ _ _)
      | (with_reducible exact LeO.refl _)
      | (with_reducible exact LeO.none _)
      | (with_reducible refine LeO.ite ?_ ?_)
      | (with_reducible refine LeO.bind ?_ (fun _ => ?_))
      | exact ih0 _ _ _ _
      | exact ih1 _ _ _ _ _ _
      | exact spec_Pack.mono _ _
      | exact spec_l2Bits.mono _ _ _
      | exact LeO.none _
      | refine LeO.ite ?_ ?_
      | refine LeO.bind ?_ (fun _ => ?_)
theorem spec_Unpack.mono : ∀ a0 k, LeO (spec_Unpack.f k a0) (spec_Unpack.f (k + 1) a0) := by
  intro a0 k
  obtain ⟨ih0, ih1⟩ := spec_Unpack.mono_l k
  unfold spec_Unpack.f
  repeat' first
      | (with_reducible exact ih0 _ _ _ _)
      | (with_reducible exact ih1 _ _ _ _ _ _)
      | (with_reducible exact spec_Pack.mono _ _)
      | (with_reducible exact spec_l2Bits.mono _ _ _)
      | (with_reducible exact LeO.refl _)
      | (with_reducible exact LeO.none _)
      | (with_reducible refine LeO.ite ?_ ?_)
      | (with_reducible refine LeO.bind ?_ (fun _ => ?_))
      | exact ih0 _ _ _ _
      | exact ih1 _ _ _ _ _ _
      | exact spec_Pack.mono _ _
      | exact spec_l2Bits.mono _ _ _
      | exact LeO.none _
      | refine LeO.ite ?_ ?_
      | refine LeO.bind ?_ (fun _ => ?_)
set_option maxHeartbeats 8000000 in
set_option maxRecDepth 100000 in
theorem spec_Unpack.calls (k : Nat) (A0 : Option Addr) (c0 : Nat) (l0 : List Int) (r : List Int) (w : World) (hr0 : Kd.C (Kd.int .u8) w A0 l0.length l0) (hc0 : l0.length ≤ c0) (h : spec_Unpack.f k l0 = some r) :
    Calls Try.prog 33 #[.slice A0 l0.length c0] w fun e w' => ∃ v0_ : Value, e = .returned (.agg #[v0_]) ∧ Kd.R (Kd.int .u8) 5 w' w.heap.size (fun _ => True) v0_ r ∧ Below w.heap.size w w' := by
  have hu33 := Try.underlying33
  have HR0 := Aside0.mk hr0
  have HC0 := Aside0.mk hc0
  clear hr0 hc0
  have HB := Aside0.mk (Below.refl w.heap.size w)
  have H : ((spec_l2Bits.f k l0 7).bind fun t127 => (spec_Unpack.l0 k l0 t127 (([] : List Int)) 0)) = some r := h
  clear h
  replace H := Option.bind_eq_some_iff.mp H
  obtain ⟨t127, A20, H⟩ := H
  replace H : (spec_Unpack.l0 k l0 t127 (([] : List Int)) 0) = some r := H
  have A2 := Aside0.mk A20
  clear A20
  obtain ⟨y130, hy130⟩ : ∃ y_ : List Int, y_ = (([] : List Int)) := ⟨_, rfl⟩
  replace H : (spec_Unpack.l0 k l0 t127 y130 0) = some r := by first | (rw [hy130]; with_reducible exact H) | (have H2_ := (Option.bind_some _ _).symm.trans H; rw [hy130]; with_reducible exact H2_) | (have H2_ := (Option.bind_some _ _).symm.trans H; with_reducible exact H2_) | with_reducible exact H | (rw [hy130]; exact H) | exact H
  have Ny130 := Aside0.mk hy130
  clear hy130
  have H' := Aside0.mk H
  clear H
  go_enter Try.func33, Try.ntmps33
  go_wp2_with (first | ((with_reducible refine gate_dst (N := 2) rfl ?_); refine box_event ?hg (N := 2) ?hd (cs := #[.slice none 0 0]) (t := 33) ?hr ?_; (case hd => rfl); (case hg => rfl); (case hr => first | (go_simp; done) | (go_simp; rfl)); intro gb126 hg w3 hbox hb; have n0_ := Aside0.mk (below_step (by repeat (first | (with_reducible first | exact HB.out | apply below_alloc | apply pw_below_drewN | apply below_drew1) | exact HB.out)) hb); have n1_ := Aside0.mk (hbox); have n2_ := Aside0.mk ((by rw [hg]; exact (below_size (by repeat (first | (with_reducible first | exact HB.out | apply below_alloc | apply pw_below_drewN | apply below_drew1) | exact HB.out))) : w.heap.size ≤ gb126)); have n3_ := Aside0.mk ((by rw [hg]; exact (below_size (by repeat (first | (with_reducible first | exact HB.out | apply below_alloc | apply pw_below_drewN | apply below_drew1) | exact HB.out))) : w.heap.size ≤ gb126)); clear HB; have HB := n0_; have BK126 := n1_; have GW126 := n2_; have GE126 := n3_; clear n0_ n1_ n2_ n3_; clear hb hbox hg) | ((with_reducible refine gate_callee (f := 50) rfl ?_); refine goesL_ (some 9) rfl rfl Try.func50 (by kernel_rfl) rfl #[.slice A0 l0.length c0, .int .i64 7] rfl (by (try simp only [List.map_toArray, List.map_cons, List.map_nil]); first | done | rfl | (simp only [List.length_drop, List.length_take]; rfl)) ?_; (with_reducible refine (spec_l2Bits.calls k _ _ l0 7 t127 _ ?side1 ?side2 A2.out).mono ?_); (case side1 => repeat (first | exact (Kd.C_below HR0.out HB.out) | (with_reducible refine Kd.C_alloc ?_ _) | (with_reducible refine Kd.C_drewN ?_ _) | (with_reducible refine Kd.C_drew ?_))); (case side2 => exact HC0.out); rintro e w4 ⟨v128, rfl, ho0, hb⟩; refine ⟨_, rfl, ?_⟩; have n0_ := Aside0.mk (Kd.R_lower ho0 (below_size (by repeat (first | (with_reducible first | exact HB.out | apply below_alloc | apply pw_below_drewN | apply below_drew1 | refine below_set ?_ GE126.out) | exact HB.out)))); have n1_ := Aside0.mk (blk_below (g := gb126) (o := .cells #[.slice none 0 0] 33 (0, 0)) (by (with_reducible repeat (first | refine blk_drewN ?_ _ | refine blk_drew ?_ | refine blk_alloc ?_ _)); exact BK126.out) hb); have n2_ := Aside0.mk (below_step (by repeat (first | (with_reducible first | exact HB.out | apply below_alloc | apply pw_below_drewN | apply below_drew1 | refine below_set ?_ GE126.out) | exact HB.out)) hb); clear BK126; clear HB; have HO129 := n0_; have BK126 := n1_; have HB := n2_; clear n0_ n1_ n2_; (try clear hb); (try clear hb2); (try clear hk); (try clear hi); (try clear ho0)) | ((with_reducible refine gate_dst (N := 10) rfl ?_); refine Kd.R_lit (Kd.int .u8) _ 5 ?hg (N := 10) ?hd (xs := ([] : List Int)) (inner := []) (ok := fun _ => True) (okp := fun _ => True) ?hr ?hp (fun _ hk => hk) trivial (Below.refl _ _) (Nat.le_refl _) (by simp) ?_; (case hd => rfl); (case hg => rfl); (case hr => first | (go_simp; done) | (go_simp; rfl)); (case hp => exact (Reps.none _ _)); intro v131 w5 ho6 hb hg_ hnew_; clear hg_ hnew_; (first | rw [← Ny130.out] at ho6 | (simp only [Int.reduceToNat] at ho6; rw [← Ny130.out] at ho6)); have n0_ := Aside0.mk (Kd.R_below (by (with_reducible repeat (first | apply Kd.R_alloc | apply Kd.R_drewN | apply Kd.R_drew)); exact HO129.out) hb); have n1_ := Aside0.mk (Kd.R_lower ho6 (below_size (by repeat (first | (with_reducible first | exact HB.out | apply below_alloc | apply pw_below_drewN | apply below_drew1 | refine below_set ?_ GE126.out) | exact HB.out)))); have n2_ := Aside0.mk (blk_below (g := gb126) (o := .cells #[.slice none 0 0] 33 (0, 0)) (by (with_reducible repeat (first | refine blk_drewN ?_ _ | refine blk_drew ?_ | refine blk_alloc ?_ _)); exact BK126.out) hb); have n3_ := Aside0.mk (below_step (by repeat (first | (with_reducible first | exact HB.out | apply below_alloc | apply pw_below_drewN | apply below_drew1 | refine below_set ?_ GE126.out) | exact HB.out)) hb); clear HO129; clear BK126; clear HB; have HO129 := n0_; have HO132 := n1_; have BK126 := n2_; have HB := n3_; clear n0_ n1_ n2_ n3_; clear hb ho6))
  go_loopg [4, 5] k (fun kq v4 v5 w' => ∃ (x4_1 : List Int) (x5_1 : Int), v5 = .int .i64 x5_1 ∧ Aside0 (spec_Unpack.l0 kq l0 t127 x4_1 x5_1 = some r) ∧ Aside0 (kq ≤ k) ∧ Aside0 (Kd.R (Kd.int .i64) 2 w' w.heap.size (fun _ => True) v128 t127) ∧ Aside0 (Kd.R (Kd.int .u8) 5 w' w.heap.size (fun _ => True) v4 x4_1) ∧ Aside0 (w'.heap[gb126]? = some (.cells #[(.slice none 0 0)] 33 (0, 0))) ∧ Aside0 (Below w.heap.size w w'))
  case atStart => exact ⟨(y130), (0), (by first | rfl | (simp; done) | (simp [*]; done)), H', ⟨Nat.le_refl _⟩, ⟨by (with_reducible repeat (first | apply Kd.R_alloc | apply Kd.R_drewN | apply Kd.R_drew)); exact HO129.out⟩, ⟨by (with_reducible repeat (first | apply Kd.R_alloc | apply Kd.R_drewN | apply Kd.R_drew)); exact HO132.out⟩, ⟨by (with_reducible repeat (first | refine blk_drewN ?_ _ | refine blk_drew ?_ | refine blk_alloc ?_ _)); exact BK126.out⟩, ⟨by repeat (first | (with_reducible first | exact HB.out | apply below_alloc | apply pw_below_drewN | apply below_drew1 | refine below_set ?_ GE126.out) | exact HB.out)⟩⟩
  case round =>
    clear H'
    try clear p2
    try clear c3
    try clear c5
    obtain ⟨x4_1, x5_1, rfl, HA, HK1, HO_3, HO_4, BK126, HB⟩ := hrel
    cases gk with
    | zero => exact absurd HA.out (by simp [spec_Unpack.l0])
    | succ k1 =>
      have H := HA.out
      clear HA
      simp only [spec_Unpack.l0] at H
      by_cases c7 : (wrap64 (x5_1 + 8)) ≤ (t127.length : Int)
      · rw [if_pos c7] at H
        have c7b0 : decide ((wrap64 (x5_1 + 8)) ≤ (t127.length : Int)) = true := decide_eq_true c7
        clear c7
        have H' := Aside0.mk H
        clear H
        obtain ⟨Ao8, co8, eo8⟩ := Kd.R_slice HO_3.out
        subst eo8
        go_wp2
        go_loopg [6, 7] k1 (fun kq v6 v7 w' => ∃ (x6_2 : Int) (x7_2 : Int), v6 = .int .i64 x6_2 ∧ v7 = .int .i64 x7_2 ∧ Aside0 (spec_Unpack.l1 kq l0 t127 x4_1 x5_1 x6_2 x7_2 = some r) ∧ Aside0 (kq ≤ k1) ∧ Aside0 (Kd.R (Kd.int .i64) 2 w' w.heap.size (fun _ => True) (.slice Ao8 t127.length co8) t127) ∧ Aside0 (Kd.R (Kd.int .u8) 5 w' w.heap.size (fun _ => True) u4 x4_1) ∧ Aside0 (w'.heap[gb126]? = some (.cells #[(.slice none 0 0)] 33 (0, 0))) ∧ Aside0 (Below w.heap.size w w'))
        case atStart => exact ⟨(0), (x5_1), (by first | rfl | (simp; done) | (simp [*]; done)), (by first | rfl | (simp; done) | (simp [*]; done)), H', ⟨Nat.le_refl _⟩, ⟨by (with_reducible repeat (first | apply Kd.R_alloc | apply Kd.R_drewN | apply Kd.R_drew)); exact HO_3.out⟩, ⟨by (with_reducible repeat (first | apply Kd.R_alloc | apply Kd.R_drewN | apply Kd.R_drew)); exact HO_4.out⟩, ⟨by (with_reducible repeat (first | refine blk_drewN ?_ _ | refine blk_drew ?_ | refine blk_alloc ?_ _)); exact BK126.out⟩, ⟨by repeat (first | (with_reducible first | exact HB.out | apply below_alloc | apply pw_below_drewN | apply below_drew1 | refine below_set ?_ GE126.out) | exact HB.out)⟩⟩
        case round =>
          clear H'
          try clear p2
          try clear c3
          try clear c5
          try clear p6
          try clear c7
          try clear c7b0
          try clear p2
          obtain ⟨x6_2, x7_2, rfl, rfl, HA, HK2, HO_3, HO_4, BK126, HB⟩ := hrel
          cases gk with
          | zero => exact absurd HA.out (by simp [spec_Unpack.l1])
          | succ k2 =>
            have H := HA.out
            clear HA
            simp only [spec_Unpack.l1] at H
            by_cases c9 : x7_2 < (wrap64 (x5_1 + 8))
            · rw [if_pos c9] at H
              have c9b0 : decide (x7_2 < (wrap64 (x5_1 + 8))) = true := decide_eq_true c9
              clear c9
              by_cases c10 : 0 ≤ x7_2
              · rw [if_pos c10] at H
                have c10b0 : decide (0 ≤ x7_2) = true := decide_eq_true c10
                clear c10
                by_cases c11 : x7_2 < (t127.length : Int)
                · rw [if_pos c11] at H
                  have c11b0 : decide (x7_2 < (t127.length : Int)) = true := decide_eq_true c11
                  clear c11
                  have H' := Aside0.mk H
                  clear H
                  have p133 : 0 ≤ (x7_2 : Int) := of_decide_eq_true (by first | (with_reducible assumption) | assumption)
                  have q133 : x7_2 < (t127.length : Int) := of_decide_eq_true (by first | (with_reducible assumption) | assumption)
                  obtain ⟨ad133, e133, hx133_0⟩ := Kd.at_int (Kd.R_reads' HO_3.out).2.2 x7_2 p133 q133
                  cases e133
                  replace p133 := eq_true p133
                  replace q133 := eq_true q133
                  go_wp2
                  go_roundg k2
                  case measure => have := HK1.out; have := HK2.out; omega
                  case rel => exact ⟨(wrap64 ((wrap64 (2 * x6_2)) + (rd t127 x7_2))), (wrap64 (x7_2 + 1)), (by first | rfl | (simp; done) | (simp [*]; done)), (by first | rfl | (simp; done) | (simp [*]; done)), H', ⟨by have := HK1.out; have := HK2.out; omega⟩, ⟨by (with_reducible repeat (first | apply Kd.R_alloc | apply Kd.R_drewN | apply Kd.R_drew)); exact HO_3.out⟩, ⟨by (with_reducible repeat (first | apply Kd.R_alloc | apply Kd.R_drewN | apply Kd.R_drew)); exact HO_4.out⟩, ⟨by (with_reducible repeat (first | refine blk_drewN ?_ _ | refine blk_drew ?_ | refine blk_alloc ?_ _)); exact BK126.out⟩, ⟨by repeat (first | (with_reducible first | exact HB.out | apply below_alloc | apply pw_below_drewN | apply below_drew1 | refine below_set ?_ GE126.out) | exact HB.out)⟩⟩
                · rw [if_neg c11] at H
                  exact absurd H (by simp)
              · rw [if_neg c10] at H
                exact absurd H (by simp)
            · rw [if_neg c9] at H
              have c9b0 : decide (x7_2 < (wrap64 (x5_1 + 8))) = false := decide_eq_false c9
              clear c9
              by_cases c12 : x4_1.length < 140737488355328
              · rw [if_pos c12] at H
                have LMc12 := Aside0.mk c12
                clear c12
                obtain ⟨y134, hy134⟩ : ∃ y_ : List Int, y_ = (x4_1 ++ [(x6_2) % 256]) := ⟨_, rfl⟩
                replace H : (spec_Unpack.l0 k2 l0 t127 y134 (wrap64 (x5_1 + 8))) = some r := by first | (rw [hy134]; with_reducible exact H) | (have H2_ := (Option.bind_some _ _).symm.trans H; rw [hy134]; with_reducible exact H2_) | (have H2_ := (Option.bind_some _ _).symm.trans H; with_reducible exact H2_) | with_reducible exact H | (rw [hy134]; exact H) | exact H
                have Ny134 := Aside0.mk hy134
                clear hy134
                have H' := Aside0.mk H
                clear H
                go_wp2_with (first | ((with_reducible refine gate_builtin (b := .append) (xs := #[.tmp 32, .tmp 35]) rfl ?_); at_builtin; refine Kd.R_append (Kd.int .u8) (w0 := w) w.heap.size rfl (.tmp 32) (.tmp 35) 23 5 (.int .u8 0) 1 rfl Try.underlying23 info5 rfl (by decide) (by omega) u4 x4_1 ((x6_2) % 256) [.int .u8 ((x6_2) % 256)] (fun _ => True) (fun _ => False) rfl rfl ?aP (fun _ hk => hk.elim) ?aF ?aO ?aB ?aS ?aL ?_; (case aP => exact rfl); (case aB => exact (by repeat (first | (with_reducible first | exact HB.out | apply below_alloc | apply pw_below_drewN | apply below_drew1 | refine below_set ?_ GE126.out) | exact HB.out))); (case aF => exact (fun _ _ => trivial)); (case aO => exact (by (with_reducible repeat (first | apply Kd.R_alloc | apply Kd.R_drewN | apply Kd.R_drew)); exact HO_4.out)); (case aS => exact (below_size (by repeat (first | (with_reducible first | exact HB.out | apply below_alloc | apply pw_below_drewN | apply below_drew1 | refine below_set ?_ GE126.out) | exact HB.out)))); (case aL => have := LMc12.out; omega); intro v135 w13 ho hb hg hat; rw [← Ny134.out] at ho; have n0_ := Aside0.mk (Kd.R_over' (by (with_reducible repeat (first | apply Kd.R_alloc | apply Kd.R_drewN | apply Kd.R_drew)); exact HO_3.out) (Kd.R_typed (by (with_reducible repeat (first | apply Kd.R_alloc | apply Kd.R_drewN | apply Kd.R_drew)); exact HO_4.out)) (by decide) hg); have n1_ := Aside0.mk (blk_grown (g := gb126) (o := .cells #[.slice none 0 0] 33 (0, 0)) (by (with_reducible repeat (first | refine blk_drewN ?_ _ | refine blk_drew ?_ | refine blk_alloc ?_ _)); exact BK126.out) hg (Kd.R_ne HO_4.out BK126.out (by decide))); have n2_ := Aside0.mk (hb); have n3_ := Aside0.mk (ho); clear HO_3; clear BK126; clear HB; clear HO_4; have HO_3 := n0_; have BK126 := n1_; have HB := n2_; have HO136 := n3_; clear n0_ n1_ n2_ n3_; clear ho hb hg hat))
                go_roundg k2
                case measure => have := HK1.out; have := HK2.out; omega
                case rel => exact ⟨(y134), (wrap64 (x5_1 + 8)), (by first | rfl | (simp; done) | (simp [*]; done)), H', ⟨by have := HK1.out; have := HK2.out; omega⟩, ⟨by (with_reducible repeat (first | apply Kd.R_alloc | apply Kd.R_drewN | apply Kd.R_drew)); exact HO_3.out⟩, ⟨by (with_reducible repeat (first | apply Kd.R_alloc | apply Kd.R_drewN | apply Kd.R_drew)); exact HO136.out⟩, ⟨by (with_reducible repeat (first | refine blk_drewN ?_ _ | refine blk_drew ?_ | refine blk_alloc ?_ _)); exact BK126.out⟩, ⟨by repeat (first | (with_reducible first | exact HB.out | apply below_alloc | apply pw_below_drewN | apply below_drew1 | refine below_set ?_ GE126.out) | exact HB.out)⟩⟩
              · rw [if_neg c12] at H
                exact absurd H (by simp)
      · rw [if_neg c7] at H
        have c7b0 : decide ((wrap64 (x5_1 + 8)) ≤ (t127.length : Int)) = false := decide_eq_false c7
        clear c7
        replace H := Option.bind_eq_some_iff.mp H
        obtain ⟨t137, A140, H⟩ := H
        replace H : ((spec_l2SameBytes.f t137 l0).bind fun t140 => (if t140 = true then (some x4_1) else (some ([] : List Int)))) = some r := H
        have A14 := Aside0.mk A140
        clear A140
        replace H := Option.bind_eq_some_iff.mp H
        obtain ⟨t140, A150, H⟩ := H
        replace H : (if t140 = true then (some x4_1) else (some ([] : List Int))) = some r := H
        have A15 := Aside0.mk A150
        clear A150
        by_cases c16 : t140 = true
        · subst c16
          have H1 : (some x4_1) = some r := by rw [if_pos rfl] at H; exact H
          clear H
          have H := H1
          clear H1
          obtain rfl := Option.some.inj H
          obtain ⟨Ao17, co17, eo17⟩ := Kd.R_slice HO_3.out
          subst eo17
          obtain ⟨Ao18, co18, eo18⟩ := Kd.R_slice HO_4.out
          subst eo18
          go_wp2_with (first | ((with_reducible refine gate_callee (f := 16) rfl ?_); refine goesL_ (some 38) rfl rfl Try.func16 (by kernel_rfl) rfl #[.slice Ao18 x4_1.length co18] rfl (by (try simp only [List.map_toArray, List.map_cons, List.map_nil]); first | done | rfl | (simp only [List.length_drop, List.length_take]; rfl)) ?_; (with_reducible refine (spec_Pack.calls k1 _ _ x4_1 t137 _ ?side1 ?side2 A14.out).mono ?_); (case side1 => repeat (first | exact (Kd.R_reads' HO_4.out).2.2 | (with_reducible refine Kd.C_alloc ?_ _) | (with_reducible refine Kd.C_drewN ?_ _) | (with_reducible refine Kd.C_drew ?_))); (case side2 => exact (Kd.R_reads' HO_4.out).2.1); rintro e w19 ⟨v138, rfl, ho0, hb⟩; refine ⟨_, rfl, ?_⟩; have n0_ := Aside0.mk (Kd.R_below (by (with_reducible repeat (first | apply Kd.R_alloc | apply Kd.R_drewN | apply Kd.R_drew)); exact HO_3.out) hb); have n1_ := Aside0.mk (Kd.R_elder' (by (with_reducible repeat (first | apply Kd.R_alloc | apply Kd.R_drewN | apply Kd.R_drew)); exact HO_4.out) (Kd.R_base ho0) hb); have n2_ := Aside0.mk (Kd.R_lower (Kd.R_new' ho0 (Kd.R_lt (by (with_reducible repeat (first | apply Kd.R_alloc | apply Kd.R_drewN | apply Kd.R_drew)); exact HO_4.out))) (below_size (by repeat (first | (with_reducible first | exact HB.out | apply below_alloc | apply pw_below_drewN | apply below_drew1 | refine below_set ?_ GE126.out) | exact HB.out)))); have n3_ := Aside0.mk (blk_below (g := gb126) (o := .cells #[.slice none 0 0] 33 (0, 0)) (by (with_reducible repeat (first | refine blk_drewN ?_ _ | refine blk_drew ?_ | refine blk_alloc ?_ _)); exact BK126.out) hb); have n4_ := Aside0.mk (below_step (by repeat (first | (with_reducible first | exact HB.out | apply below_alloc | apply pw_below_drewN | apply below_drew1 | refine below_set ?_ GE126.out) | exact HB.out)) hb); clear HO_3; clear HO_4; clear BK126; clear HB; have HO_3 := n0_; have HO_4 := n1_; have HO139 := n2_; have BK126 := n3_; have HB := n4_; clear n0_ n1_ n2_ n3_ n4_; (try clear hb); (try clear hb2); (try clear hk); (try clear hi); (try clear ho0); obtain ⟨Ao20, co20, eo20⟩ := Kd.R_slice HO139.out; subst eo20) | ((with_reducible refine gate_callee (f := 59) rfl ?_); refine goesL_ (some 40) rfl rfl Try.func59 (by kernel_rfl) rfl #[.slice Ao20 t137.length co20, .slice A0 l0.length c0] rfl (by (try simp only [List.map_toArray, List.map_cons, List.map_nil]); first | done | rfl | (simp only [List.length_drop, List.length_take]; rfl)) ?_; (with_reducible refine (spec_l2SameBytes.calls _ _ t137 _ _ l0 true _ ?side1 ?side2 ?side3 ?side4 A15.out).mono ?_); (case side1 => repeat (first | exact (Kd.R_reads' HO139.out).2.2 | (with_reducible refine Kd.C_alloc ?_ _) | (with_reducible refine Kd.C_drewN ?_ _) | (with_reducible refine Kd.C_drew ?_))); (case side2 => exact (Kd.R_reads' HO139.out).2.1); (case side3 => repeat (first | exact (Kd.C_below HR0.out HB.out) | (with_reducible refine Kd.C_alloc ?_ _) | (with_reducible refine Kd.C_drewN ?_ _) | (with_reducible refine Kd.C_drew ?_))); (case side4 => exact HC0.out); rintro e w' ⟨rfl, ⟨nd, rfl⟩⟩; refine ⟨_, rfl, ?_⟩; (try (rw [drewN_self w19]; generalize hq_ : World.drewN w19 _ = w19; have n0_ : Aside0 (Kd.R (Kd.int .u8) 5 w19 w.heap.size (fun k_ => some k_ ≠ (.slice Ao18 x4_1.length co18 : Value).ownBlock) (.slice Ao20 t137.length co20) t137) := ⟨by rw [← hq_]; exact (by (with_reducible repeat (first | apply Kd.R_alloc | apply Kd.R_drewN | apply Kd.R_drew)); exact Kd.R_mono HO139.out (fun _ hk => hk.2))⟩; have n1_ : Aside0 (Kd.R (Kd.int .i64) 2 w19 w.heap.size (fun _ => True) (.slice Ao17 t127.length co17) t127) := ⟨by rw [← hq_]; exact (by (with_reducible repeat (first | apply Kd.R_alloc | apply Kd.R_drewN | apply Kd.R_drew)); exact HO_3.out)⟩; have n2_ : Aside0 (Kd.R (Kd.int .u8) 5 w19 w.heap.size (fun k_ => some k_ ≠ (.slice Ao20 t137.length co20 : Value).ownBlock) (.slice Ao18 x4_1.length co18) x4_1) := ⟨by rw [← hq_]; exact (by (with_reducible repeat (first | apply Kd.R_alloc | apply Kd.R_drewN | apply Kd.R_drew)); exact Kd.R_mono HO_4.out (fun _ hk => hk.2))⟩; have n3_ : Aside0 (w19.heap[gb126]? = some (.cells #[.slice none 0 0] 33 (0, 0))) := ⟨by rw [← hq_]; exact (by (with_reducible repeat (first | refine blk_drewN ?_ _ | refine blk_drew ?_ | refine blk_alloc ?_ _)); exact BK126.out)⟩; have n4_ : Aside0 (Below w.heap.size w w19) := ⟨by rw [← hq_]; exact (by repeat (first | (with_reducible first | exact HB.out | apply below_alloc | apply pw_below_drewN | apply below_drew1 | refine below_set ?_ GE126.out) | exact HB.out))⟩; clear HO139 HO_3 HO_4 BK126 HB hq_; have HO139 := n0_; have HO_3 := n1_; have HO_4 := n2_; have BK126 := n3_; have HB := n4_; clear n0_ n1_ n2_ n3_ n4_)); have hcz21_0 : w19.cell? ⟨gb126, 0, none⟩ = some (.slice none 0 0) := (blk_cell BK126.out 0).trans rfl; have hfz21_0 := blk_frozen BK126.out 0))
          refine bodyPost_ret (results_cell_row rfl _ _ gb126 33 #[.slice Ao18 x4_1.length co18] (0, 0) _ rfl (by (with_reducible repeat (first | refine blk_drewN ?_ _ | refine blk_drew ?_ | refine blk_alloc ?_ _)); refine blk_put (cs := #[.slice none 0 0]) ?_ 0 _ rfl; (with_reducible repeat (first | refine blk_drewN ?_ _ | refine blk_drew ?_ | refine blk_alloc ?_ _)); exact BK126.out) Try.underlying33 rfl (by kernel_rfl)) rfl ?_
          exact ⟨_, by first | rfl | (simp [errW_none, errW_some] <;> rfl) | (simp [*, errW_none, errW_some] <;> rfl), by (with_reducible repeat (first | apply Kd.R_alloc | apply Kd.R_drewN | apply Kd.R_drew)); exact Kd.R_mono (Kd.R_far (p := ⟨gb126, 0, none⟩) (Kd.R_types HO_4.out BK126.out (by decide)) (fun _ hk => hk.2) (.slice Ao18 x4_1.length co18)) (fun _ hk => trivial), by repeat (first | (with_reducible first | exact HB.out | apply below_alloc | apply pw_below_drewN | apply below_drew1 | refine below_set ?_ GE126.out) | exact HB.out)⟩
        · replace c16 := Bool.eq_false_iff.mpr c16
          subst c16
          have H1 : (some ([] : List Int)) = some r := by rw [if_neg (show ¬ (false = true) by decide)] at H; exact H
          clear H
          have H := H1
          clear H1
          obtain rfl := Option.some.inj H
          obtain ⟨Ao22, co22, eo22⟩ := Kd.R_slice HO_3.out
          subst eo22
          obtain ⟨Ao23, co23, eo23⟩ := Kd.R_slice HO_4.out
          subst eo23
          go_wp2_with (first | ((with_reducible refine gate_callee (f := 16) rfl ?_); refine goesL_ (some 38) rfl rfl Try.func16 (by kernel_rfl) rfl #[.slice Ao23 x4_1.length co23] rfl (by (try simp only [List.map_toArray, List.map_cons, List.map_nil]); first | done | rfl | (simp only [List.length_drop, List.length_take]; rfl)) ?_; (with_reducible refine (spec_Pack.calls k1 _ _ x4_1 t137 _ ?side1 ?side2 A14.out).mono ?_); (case side1 => repeat (first | exact (Kd.R_reads' HO_4.out).2.2 | (with_reducible refine Kd.C_alloc ?_ _) | (with_reducible refine Kd.C_drewN ?_ _) | (with_reducible refine Kd.C_drew ?_))); (case side2 => exact (Kd.R_reads' HO_4.out).2.1); rintro e w24 ⟨v138, rfl, ho0, hb⟩; refine ⟨_, rfl, ?_⟩; have n0_ := Aside0.mk (Kd.R_below (by (with_reducible repeat (first | apply Kd.R_alloc | apply Kd.R_drewN | apply Kd.R_drew)); exact HO_3.out) hb); have n1_ := Aside0.mk (Kd.R_elder' (by (with_reducible repeat (first | apply Kd.R_alloc | apply Kd.R_drewN | apply Kd.R_drew)); exact HO_4.out) (Kd.R_base ho0) hb); have n2_ := Aside0.mk (Kd.R_lower (Kd.R_new' ho0 (Kd.R_lt (by (with_reducible repeat (first | apply Kd.R_alloc | apply Kd.R_drewN | apply Kd.R_drew)); exact HO_4.out))) (below_size (by repeat (first | (with_reducible first | exact HB.out | apply below_alloc | apply pw_below_drewN | apply below_drew1 | refine below_set ?_ GE126.out) | exact HB.out)))); have n3_ := Aside0.mk (blk_below (g := gb126) (o := .cells #[.slice none 0 0] 33 (0, 0)) (by (with_reducible repeat (first | refine blk_drewN ?_ _ | refine blk_drew ?_ | refine blk_alloc ?_ _)); exact BK126.out) hb); have n4_ := Aside0.mk (below_step (by repeat (first | (with_reducible first | exact HB.out | apply below_alloc | apply pw_below_drewN | apply below_drew1 | refine below_set ?_ GE126.out) | exact HB.out)) hb); clear HO_3; clear HO_4; clear BK126; clear HB; have HO_3 := n0_; have HO_4 := n1_; have HO139 := n2_; have BK126 := n3_; have HB := n4_; clear n0_ n1_ n2_ n3_ n4_; (try clear hb); (try clear hb2); (try clear hk); (try clear hi); (try clear ho0); obtain ⟨Ao25, co25, eo25⟩ := Kd.R_slice HO139.out; subst eo25) | ((with_reducible refine gate_callee (f := 59) rfl ?_); refine goesL_ (some 40) rfl rfl Try.func59 (by kernel_rfl) rfl #[.slice Ao25 t137.length co25, .slice A0 l0.length c0] rfl (by (try simp only [List.map_toArray, List.map_cons, List.map_nil]); first | done | rfl | (simp only [List.length_drop, List.length_take]; rfl)) ?_; (with_reducible refine (spec_l2SameBytes.calls _ _ t137 _ _ l0 false _ ?side1 ?side2 ?side3 ?side4 A15.out).mono ?_); (case side1 => repeat (first | exact (Kd.R_reads' HO139.out).2.2 | (with_reducible refine Kd.C_alloc ?_ _) | (with_reducible refine Kd.C_drewN ?_ _) | (with_reducible refine Kd.C_drew ?_))); (case side2 => exact (Kd.R_reads' HO139.out).2.1); (case side3 => repeat (first | exact (Kd.C_below HR0.out HB.out) | (with_reducible refine Kd.C_alloc ?_ _) | (with_reducible refine Kd.C_drewN ?_ _) | (with_reducible refine Kd.C_drew ?_))); (case side4 => exact HC0.out); rintro e w' ⟨rfl, ⟨nd, rfl⟩⟩; refine ⟨_, rfl, ?_⟩; (try (rw [drewN_self w24]; generalize hq_ : World.drewN w24 _ = w24; have n0_ : Aside0 (Kd.R (Kd.int .u8) 5 w24 w.heap.size (fun k_ => some k_ ≠ (.slice Ao23 x4_1.length co23 : Value).ownBlock) (.slice Ao25 t137.length co25) t137) := ⟨by rw [← hq_]; exact (by (with_reducible repeat (first | apply Kd.R_alloc | apply Kd.R_drewN | apply Kd.R_drew)); exact Kd.R_mono HO139.out (fun _ hk => hk.2))⟩; have n1_ : Aside0 (Kd.R (Kd.int .i64) 2 w24 w.heap.size (fun _ => True) (.slice Ao22 t127.length co22) t127) := ⟨by rw [← hq_]; exact (by (with_reducible repeat (first | apply Kd.R_alloc | apply Kd.R_drewN | apply Kd.R_drew)); exact HO_3.out)⟩; have n2_ : Aside0 (Kd.R (Kd.int .u8) 5 w24 w.heap.size (fun k_ => some k_ ≠ (.slice Ao25 t137.length co25 : Value).ownBlock) (.slice Ao23 x4_1.length co23) x4_1) := ⟨by rw [← hq_]; exact (by (with_reducible repeat (first | apply Kd.R_alloc | apply Kd.R_drewN | apply Kd.R_drew)); exact Kd.R_mono HO_4.out (fun _ hk => hk.2))⟩; have n3_ : Aside0 (w24.heap[gb126]? = some (.cells #[.slice none 0 0] 33 (0, 0))) := ⟨by rw [← hq_]; exact (by (with_reducible repeat (first | refine blk_drewN ?_ _ | refine blk_drew ?_ | refine blk_alloc ?_ _)); exact BK126.out)⟩; have n4_ : Aside0 (Below w.heap.size w w24) := ⟨by rw [← hq_]; exact (by repeat (first | (with_reducible first | exact HB.out | apply below_alloc | apply pw_below_drewN | apply below_drew1 | refine below_set ?_ GE126.out) | exact HB.out))⟩; clear HO139 HO_3 HO_4 BK126 HB hq_; have HO139 := n0_; have HO_3 := n1_; have HO_4 := n2_; have BK126 := n3_; have HB := n4_; clear n0_ n1_ n2_ n3_ n4_)); have hcz26_0 : w24.cell? ⟨gb126, 0, none⟩ = some (.slice none 0 0) := (blk_cell BK126.out 0).trans rfl; have hfz26_0 := blk_frozen BK126.out 0))
          refine bodyPost_ret (results_cell_row rfl _ _ gb126 33 #[.slice none 0 0] (0, 0) _ rfl (by (with_reducible repeat (first | refine blk_drewN ?_ _ | refine blk_drew ?_ | refine blk_alloc ?_ _)); refine blk_put (cs := #[.slice none 0 0]) ?_ 0 _ rfl; (with_reducible repeat (first | refine blk_drewN ?_ _ | refine blk_drew ?_ | refine blk_alloc ?_ _)); exact BK126.out) Try.underlying33 rfl (by kernel_rfl)) rfl ?_
          exact ⟨_, by first | rfl | (simp [errW_none, errW_some] <;> rfl) | (simp [*, errW_none, errW_some] <;> rfl), by first | exact Kd.R_nil _ _ _ _ _ | exact Kd.N_nil _ _ _ _ _ | exact Kd.V_nil _ _ _ _ _ | exact Kd.Q_nil _ _ _ _ _ | exact Kd.S_nil _ _ _ _ _, by repeat (first | (with_reducible first | exact HB.out | apply below_alloc | apply pw_below_drewN | apply below_drew1 | refine below_set ?_ GE126.out) | exact HB.out)⟩

/-! ### impl_Pack: function 18, by hand -/
def Cap (w0 : World) (bx : Nat) (xs : List Int) (W : World) : Prop := ∃ v, W.heap[bx]? = some (.cells #[v] 23 (0,0)) ∧ Kd.R (Kd.int .u8) 5 W w0.heap.size (fun _ => True) v xs ∧ Below w0.heap.size w0 W ∧ w0.heap.size ≤ bx

set_option maxHeartbeats 1000000 in
set_option maxRecDepth 100000 in
theorem pack1 (bx : Nat) (xs : List Int) (g : Int) (w0 w : World) (hC : Cap w0 bx xs w) (hl : xs.length + 1 ≤ 140737488355328) (h0: 0 ≤ g) (h1 : g ≤ 255) :
   Calls Try.prog 52 #[.int .u8 g, .pointer (some ⟨bx,0,none⟩)] w fun e w' => e = .returned (.tuple #[]) ∧ Cap w0 bx (xs ++ [(128+g)%256]) w' := by
  obtain ⟨v, hb, HO0, HB0, hbx⟩ := hC
  have HB := Aside0.mk HB0
  have HO := Aside0.mk HO0
  have BK := Aside0.mk hb
  have HL := Aside0.mk hl
  clear HB0 HO0 hl
  have hc : w.cell? ⟨bx, 0, none⟩ = some v := (blk_cell BK.out 0).trans rfl
  have hf := blk_frozen BK.out 0
  clear hb
  go_enter Try.func52, Try.ntmps52
  go_wp2_with (((with_reducible refine gate_builtin (b := .append) (xs := #[.tmp 3, .tmp 6]) rfl ?_); at_builtin; refine Kd.R_append (Kd.int .u8) (w0 := w0) w0.heap.size rfl (.tmp 3) (.tmp 6) 23 5 (.int .u8 0) 1 rfl Try.underlying23 info5 rfl (by decide) (by omega) v xs ((128 + g) % 256) [.int .u8 ((128 + g) % 256)] (fun _ => True) (fun _ => False) rfl rfl ?aP (fun _ hk => hk.elim) ?aF ?aO ?aB ?aS ?aL ?_; (case aP => exact rfl); (case aB => exact HB.out); (case aF => exact (fun _ _ => trivial)); (case aO => exact HO.out); (case aS => exact HB.out.size); (case aL => have := HL.out; omega); intro v116 w12 ho hb2 hg hat; have HO2 := Aside0.mk ho; have HB2 := Aside0.mk hb2; have HG := Aside0.mk hg; have BK2 := Aside0.mk (blk_grown BK.out hg (Kd.R_ne HO.out BK.out (by decide))); have hc2 : w12.cell? ⟨bx, 0, none⟩ = some v := (blk_cell BK2.out 0).trans rfl; obtain ⟨Ao2, co2, eo2⟩ := Kd.R_slice HO2.out; subst eo2; have hf2 := blk_frozen BK2.out 0; clear hc hf BK HO HB ho hb2 hg hat))
  go_end0
  have HO3 := HO2.out
  rw [show (xs ++ [(128 + g) % 256]).length = xs.length + 1 from by simp] at HO3
  exact ⟨rfl, .slice Ao2 (xs.length + 1) co2, blk_set BK2.out 0 _, Kd.R_set HO3 BK2.out (by decide) 0 _, below_set HB2.out hbx, hbx⟩


def drainM (tt : Nat) : Nat → Nat → Nat → List Int → Nat × Nat × List Int
  | 0, p, r, out => (p, r, out)
  | k+1, p, r, out => if tt ≤ r then drainM tt k (p % 2^(r-tt)) (r-tt) (out ++ [((p / 2^(r-tt) : Nat) : Int)]) else (p, r, out)
def feedM (frm tt : Nat) (s : Nat × Nat × List Int) (b : Int) : Nat × Nat × List Int := drainM tt 2 (s.1 * 2^frm + b.toNat % 2^frm) (s.2.1 + frm) s.2.2
def runM (frm tt : Nat) (l : List Int) : Nat × Nat × List Int := l.foldl (feedM frm tt) (0, 0, [])
def finM (tt : Nat) (s : Nat × Nat × List Int) : List Int := if 0 < s.2.1 then s.2.2 ++ [((s.1 * 2^(tt - s.2.1) : Nat) : Int)] else s.2.2

theorem wrap_u16 (n : Int) : IntKind.u16.wrap n = n % 65536 := by simp [IntKind.wrap, IntKind.bits, IntKind.signed]
theorem wraps_u16 (n : Int) (h₀ : 0 ≤ n) (h₁ : n < 2 ^ 16) : IntKind.u16.wrap n = n := by rw [wrap_u16]; omega
theorem or_lem (acc b : Int) (h0 : 0 ≤ acc) (h2 : 0 ≤ b) (h3 : b < 256) : bits .or .u16 (IntKind.u16.wrap (acc * 256)) b = (acc * 256) % 65536 + b := by
  rw [wrap_u16]
  exact bits_join .u16 16 (by decide) wraps_u16 8 _ _ (by omega) (by omega) (by omega) (by omega) (by omega) (by omega)
theorem and_lem8 (b : Int) (h2 : 0 ≤ b) (h3 : b < 65536) : bits .and .u16 b 255 = b % 256 := bits_mask .u16 16 (by decide) wraps_u16 8 (by decide) b h2 h3
theorem and_lem7 (b : Int) (h2 : 0 ≤ b) (h3 : b < 65536) : bits .and .u16 b 127 = b % 128 := bits_mask .u16 16 (by decide) wraps_u16 7 (by decide) b h2 h3

theorem emit_lem (acc : Int) (p r : Nat) (h0 : 0 ≤ acc) (h1 : acc < 65536) (hp : p = acc.toNat % 2 ^ r) (hr : 7 ≤ r) (hr2 : r ≤ 14) :
    bits .and .u16 (acc / 2 ^ (r - 7)) 127 % 256 = ((p / 2 ^ (r - 7) : Nat) : Int) ∧ ((p / 2 ^ (r - 7) : Nat) : Int) ≤ 255 ∧ p % 2 ^ (r - 7) = acc.toNat % 2 ^ (r - 7) := by
  have hr' : r = 7 ∨ r = 8 ∨ r = 9 ∨ r = 10 ∨ r = 11 ∨ r = 12 ∨ r = 13 ∨ r = 14 := by omega
  rcases hr' with rfl | rfl | rfl | rfl | rfl | rfl | rfl | rfl <;> (rw [and_lem7 _ (by omega) (by omega)]; simp only [Nat.reduceSub, Nat.reducePow, Int.reducePow] at *; omega)
theorem feed_lem (acc acc2 b : Int) (r : Nat) (h0 : 0 ≤ acc) (h1 : acc < 65536) (hb0 : 0 ≤ b) (hb1 : b ≤ 255) (h2 : acc2 = (acc * 256) % 65536 + b) (hr : r < 7) :
    acc2.toNat % 2 ^ (r + 8) = acc.toNat % 2 ^ r * 2 ^ 8 + b.toNat % 2 ^ 8 := by
  have hr' : r = 0 ∨ r = 1 ∨ r = 2 ∨ r = 3 ∨ r = 4 ∨ r = 5 ∨ r = 6 := by omega
  rcases hr' with rfl | rfl | rfl | rfl | rfl | rfl | rfl <;> (simp only [Nat.reduceAdd, Nat.reducePow] at *; omega)
theorem run_snoc (frm tt : Nat) (l : List Int) (j : Nat) (hj : j < l.length) : runM frm tt (l.take (j + 1)) = feedM frm tt (runM frm tt (l.take j)) (rd l j) := by
  rw [List.take_succ_eq_append_getElem hj, runM, List.foldl_append]
  simp [runM, rd, hj]

theorem last_lem (acc : Int) (r : Nat) (h0 : 0 ≤ acc) (h1 : acc < 65536) (hr0 : 0 < r) (hr : r < 7) :
    bits .and .u16 (IntKind.u16.wrap (acc * 2 ^ (7 - r))) 127 % 256 = ((acc.toNat % 2 ^ r * 2 ^ (7 - r) : Nat) : Int) ∧ ((acc.toNat % 2 ^ r * 2 ^ (7 - r) : Nat) : Int) ≤ 255 := by
  have hr' : r = 1 ∨ r = 2 ∨ r = 3 ∨ r = 4 ∨ r = 5 ∨ r = 6 := by omega
  rw [wrap_u16]
  rcases hr' with rfl | rfl | rfl | rfl | rfl | rfl <;> (rw [and_lem7 _ (by omega) (by omega)]; simp only [Nat.reduceSub, Nat.reducePow, Int.reducePow] at *; omega)

set_option maxHeartbeats 1000000 in
set_option maxRecDepth 100000 in
theorem shift1 (bx : Nat) (A0 : Option Addr) (c0 : Nat) (l0 : List Int) (w0 w : World) (hC : Cap w0 bx [] w) (hr0 : Kd.C (Kd.int .u8) w0 A0 l0.length l0) (hby : ∀ j : Nat, j < l0.length → 0 ≤ rd l0 j ∧ rd l0 j ≤ 255) (hl : l0.length ≤ 1099511627776) :
   Calls Try.prog 51 #[.slice A0 l0.length c0, .int .u64 8, .int .u64 7, .func (.func 52) #[] #[.pointer (some ⟨bx,0,none⟩)]] w fun e w' => e = .returned (.int .u64 (runM 8 7 l0).2.1) ∧ Cap w0 bx ((finM 7 (runM 8 7 l0)).map fun g => (128 + g) % 256) w' := by
  have HC := Aside0.mk hC
  have HR := Aside0.mk hr0
  have HBY := Aside0.mk hby
  clear hC hr0 hby
  go_enter Try.func51, Try.ntmps51
  go_wp2_with fail
  go_loopw [8, 9, 11, 14] (fun v8 v9 v11 v14 W => ∃ (j : Nat) (rest : Nat) (acc : Int) (out : List Int), v8 = .int .u64 rest ∧ v9 = .int .u16 acc ∧ v14 = .int .i64 j ∧ j ≤ l0.length ∧ rest < 7 ∧ 0 ≤ acc ∧ acc < 65536 ∧ Aside0 (runM 8 7 (l0.take j) = (acc.toNat % 2^rest, rest, out)) ∧ Aside0 (out.length ≤ 2 * j) ∧ Aside0 (Cap w0 bx (out.map fun g => (128 + g) % 256) W)) (fun _ _ _ v14 _ => l0.length - (intOf v14).toNat)
  case atStart => exact ⟨0, 0, 0, [], rfl, rfl, rfl, by omega, by omega, by omega, by omega, ⟨rfl⟩, ⟨by simp⟩, HC⟩
  case round =>
    obtain ⟨j, rest, acc, out, rfl, rfl, rfl, hj, hr2, ha1, ha2, HRUN, HLEN, HC⟩ := hrel
    by_cases hlt : j < l0.length
    · obtain ⟨v, hb, HO0, HB0, hbx⟩ := HC.out
      obtain ⟨ad, hA, hcell⟩ := Kd.at_int (Kd.C_below HR.out HB0) (j : Int) (by omega) (by omega)
      rw [Int.toNat_natCast] at hcell
      clear hb HO0 HB0 hbx v
      subst hA
      obtain ⟨hb0, hb1⟩ := HBY.out j hlt
      obtain ⟨b, hbe⟩ : ∃ b, b = rd l0 j := ⟨_, rfl⟩
      rw [← hbe] at hcell hb0 hb1
      have HBE := Aside0.mk hbe
      clear hbe
      have hand : bits .and .u16 b 255 = b := by rw [and_lem8 b hb0 (by omega)]; omega
      have hor := or_lem acc b ha1 hb0 (by omega)
      obtain ⟨acc2, hacc2⟩ : ∃ acc2, acc2 = (acc * 256) % 65536 + b := ⟨_, rfl⟩
      rw [← hacc2] at hor
      have h20 : 0 ≤ acc2 := by omega
      have h21 : acc2 < 65536 := by omega
      have HACC := Aside0.mk hacc2
      clear hacc2
      go_wp2_with fail
      clear hor hand hcell
      go_loopw [8] (fun v8 W => ∃ (k p r : Nat) (o2 : List Int), v8 = .int .u64 r ∧ r < 7 * (k + 1) ∧ r ≤ 14 ∧ Aside0 (p = acc2.toNat % 2^r) ∧ Aside0 (o2.length + k ≤ 2 * j + 2) ∧ Aside0 (drainM 7 k p r o2 = runM 8 7 (l0.take (j+1))) ∧ Aside0 (Cap w0 bx (o2.map fun g => (128 + g) % 256) W)) (fun v8 _ => (intOf v8).toNat)
      case atStart => exact ⟨2, acc2.toNat % 2 ^ (rest + 8), rest + 8, out, by go_num, by omega, by omega, ⟨rfl⟩, ⟨by have := HLEN.out; omega⟩, ⟨by rw [run_snoc 8 7 l0 j hlt, HRUN.out, feedM, ← HBE.out, feed_lem acc acc2 b rest ha1 ha2 hb0 hb1 HACC.out (by omega)]⟩, HC⟩
      case round =>
        obtain ⟨k, p, r, o2, rfl, hrk, hr14, HP, HL2, HD, HC2⟩ := hrel
        by_cases hge : 7 ≤ r
        · obtain ⟨e1, e2, e3⟩ := emit_lem acc2 p r h20 h21 HP.out hge hr14
          obtain ⟨k, rfl⟩ : ∃ k', k = k' + 1 := ⟨k - 1, by omega⟩
          have HD2 := HD.out
          rw [drainM, if_pos hge] at HD2
          have E1 := Aside0.mk e1
          have E3 := Aside0.mk e3
          have HD3 := Aside0.mk HD2
          clear e1 e3 HD2
          go_wp2_with fail
          rw [E1.out]
          obtain ⟨q, hq⟩ : ∃ q : Nat, q = p / 2 ^ (r - 7) := ⟨_, rfl⟩
          have HQ := Aside0.mk hq
          rw [← hq]
          rw [← hq] at e2
          clear hq
          refine (pack1 bx _ q w0 _ HC2.out (by simp; have := HL2.out; omega) (by omega) e2).mono ?_
          rintro e W2 ⟨rfl, hc2⟩
          have HC3 := Aside0.mk hc2
          clear hc2
          go_wp2_with fail
          go_roundw
          case rel => exact ⟨k, p % 2 ^ (r - 7), r - 7, o2 ++ [(q : Int)], by go_num, by omega, by omega, E3, ⟨by have := HL2.out; simp; omega⟩, ⟨by rw [HQ.out]; exact HD3.out⟩, ⟨by simpa using HC3.out⟩⟩
          case measure => simp [intOf]; omega
        · have HD2 := HD.out
          have hd : drainM 7 k p r o2 = (p, r, o2) := by cases k with
            | zero => rfl
            | succ k => rw [drainM, if_neg hge]
          rw [hd] at HD2
          have HD3 := Aside0.mk HD2
          clear hd HD2
          go_wp2_with fail
          refine ⟨⟨j + 1, r, acc2, o2, rfl, rfl, by go_num, by omega, by omega, h20, h21, ⟨by rw [← HD3.out, HP.out]⟩, ⟨by have := HL2.out; omega⟩, HC2⟩, ?_⟩
          simp [intOf]; omega
    · have hj2 : l0.take j = l0 := List.take_of_length_le (by omega)
      have HR2 := HRUN.out
      rw [hj2] at HR2
      have HR3 := Aside0.mk HR2
      clear hj2 HR2 HRUN
      by_cases hz : rest = 0
      · subst hz
        go_wp2_with fail
        go_ret
        exact ⟨by rw [HR3.out]; rfl, by rw [HR3.out]; exact HC.out⟩
      · obtain ⟨e1, e2⟩ := last_lem acc rest ha1 ha2 (by omega) hr2
        obtain ⟨q, hq⟩ : ∃ q : Nat, q = acc.toNat % 2 ^ rest * 2 ^ (7 - rest) := ⟨_, rfl⟩
        rw [← hq] at e1 e2
        have HQ := Aside0.mk hq
        have E1 := Aside0.mk e1
        clear hq e1
        go_wp2_with fail
        rw [E1.out]
        refine (pack1 bx _ q w0 _ HC.out (by simp; have := HLEN.out; omega) (by omega) e2).mono ?_
        rintro e W2 ⟨rfl, hc2⟩
        have HC3 := Aside0.mk hc2
        clear hc2
        go_wp2_with fail
        go_ret
        exact ⟨by rw [HR3.out]; rfl, by rw [HR3.out, finM, if_pos (by show 0 < rest; omega), ← HQ.out]; simpa using HC3.out⟩

def packM (l0 : List Int) : List Int := (finM 7 (runM 8 7 l0)).map fun g => (128 + g) % 256
def okBytes (l : List Int) : Bool := l.all fun x => decide (0 ≤ x ∧ x ≤ 255)
def impl_Pack.f (l0 : List Int) : Option (List Int) := if okBytes l0 = true ∧ l0.length ≤ 1099511627776 then some (packM l0) else none
theorem okBytes_rd {l : List Int} (h : okBytes l = true) (j : Nat) (hj : j < l.length) : 0 ≤ rd l j ∧ rd l j ≤ 255 := by
  unfold okBytes at h
  rw [List.all_eq_true] at h
  have := h l[j] (List.getElem_mem hj)
  simpa [rd, hj] using this
set_option maxHeartbeats 1000000 in
set_option maxRecDepth 100000 in
theorem impl_Pack.calls (A0 : Option Addr) (c0 : Nat) (l0 : List Int) (r : List Int) (w : World) (hr0 : Kd.C (Kd.int .u8) w A0 l0.length l0) (hc0 : l0.length ≤ c0) (h : impl_Pack.f l0 = some r) :
    Calls Try.prog 18 #[.slice A0 l0.length c0] w fun e w' => ∃ v0_ : Value, e = .returned (v0_) ∧ Kd.R (Kd.int .u8) 5 w' w.heap.size (fun _ => True) v0_ r ∧ Below w.heap.size w w' := by
  unfold impl_Pack.f at h
  obtain ⟨⟨hok, hlen⟩, rfl⟩ : (okBytes l0 = true ∧ l0.length ≤ 1099511627776) ∧ packM l0 = r := by
    split at h
    · exact ⟨‹_›, Option.some.inj h⟩
    · cases h
  clear h
  have HOK := Aside0.mk hok
  have HR0 := Aside0.mk hr0
  clear hok hr0
  have hmf : ∀ (fn : Fn) (first cap : Array Value) (w : World), (Instr.makeFunc fn first cap).run Try.prog w = .ok (.func fn first cap) w := fun _ _ _ _ => rfl
  go_enter Try.func18, Try.ntmps18
  go_wp2_with fail
  refine (shift1 w.heap.size A0 c0 l0 w _ ⟨_, blk_new w (.cells #[.slice none 0 0] 23), Kd.R_nil _ _ _ _ _, below_alloc (Below.refl _ _) _, Nat.le_refl _⟩ HR0.out (okBytes_rd HOK.out) hlen).mono ?_
  rintro e W ⟨rfl, hcap⟩
  have hcap2 : Cap w w.heap.size (packM l0) W := hcap
  clear hcap
  obtain ⟨ys, hys⟩ : ∃ ys, ys = packM l0 := ⟨_, rfl⟩
  rw [← hys] at hcap2
  have HY := Aside0.mk hys
  clear hys
  obtain ⟨v, hb, HO, HB, hbx⟩ := hcap2
  have hc : W.cell? ⟨w.heap.size, 0, none⟩ = some v := (blk_cell hb 0).trans rfl
  have HO2 := Aside0.mk HO
  have HB2 := Aside0.mk HB
  obtain ⟨Ao2, co2, eo2⟩ := Kd.R_slice HO2.out
  subst eo2
  clear hb HO HB
  go_wp2
  go_ret
  exact ⟨_, rfl, by rw [← HY.out]; exact HO2.out, HB2.out⟩

/-! ### bytes_Equal: function 61 -/
def bytes_Equal.f (l0 : List Int) (l1 : List Int) : Option (Bool) := some ((strOfNums l0).toList == (strOfNums l1).toList)
set_option maxHeartbeats 8000000 in
set_option maxRecDepth 100000 in
theorem bytes_Equal.calls (A0 : Option Addr) (c0 : Nat) (l0 : List Int) (A1 : Option Addr) (c1 : Nat) (l1 : List Int) (r : Bool) (w : World) (hr0 : Kd.C (Kd.int .u8) w A0 l0.length l0) (hc0 : l0.length ≤ c0) (hr1 : Kd.C (Kd.int .u8) w A1 l1.length l1) (hc1 : l1.length ≤ c1) (h : bytes_Equal.f l0 l1 = some r) :
    Calls Try.prog 61 #[.slice A0 l0.length c0, .slice A1 l1.length c1] w fun e w' => e = .returned (.bool r) ∧ Drawn0 w w' := by
  have HR0 := Aside0.mk hr0
  have HC0 := Aside0.mk hc0
  clear hr0 hc0
  have HR1 := Aside0.mk hr1
  have HC1 := Aside0.mk hc1
  clear hr1 hc1
  have H : (some ((strOfNums l0).toList == (strOfNums l1).toList)) = some r := h
  clear h
  obtain rfl := Option.some.inj H
  have hcv3 := Kd.C_string (P := Try.prog) (A := A0) (c := c0) Try.underlying23 Try.underlying5 Try.underlying9 HR0.out
  have hcv4 := Kd.C_string (P := Try.prog) (A := A1) (c := c1) Try.underlying23 Try.underlying5 Try.underlying9 HR1.out
  go_enter Try.func61, Try.ntmps61
  go_wp2
  go_ret
  exact ⟨by first | rfl | (simp; done) | (simp [*]; done), by repeat (first | exact Drawn0.refl _ | apply Drawn0.step)⟩

/-! ### impl_Unpack: function 34, by hand -/
set_option maxHeartbeats 1000000 in
set_option maxRecDepth 100000 in
theorem unpack1 (bx : Nat) (xs : List Int) (g : Int) (w0 w : World) (hC : Cap w0 bx xs w) (hl : xs.length + 1 ≤ 140737488355328) (h0: 0 ≤ g) (h1 : g ≤ 255) :
   Calls Try.prog 60 #[.int .u8 g, .pointer (some ⟨bx,0,none⟩)] w fun e w' => e = .returned (.tuple #[]) ∧ Cap w0 bx (xs ++ [g]) w' := by
  obtain ⟨v, hb, HO0, HB0, hbx⟩ := hC
  have HB := Aside0.mk HB0
  have HO := Aside0.mk HO0
  have BK := Aside0.mk hb
  have HL := Aside0.mk hl
  clear HB0 HO0 hl
  have hc : w.cell? ⟨bx, 0, none⟩ = some v := (blk_cell BK.out 0).trans rfl
  have hf := blk_frozen BK.out 0
  clear hb
  go_enter Try.func60, Try.ntmps60
  go_wp2_with (((with_reducible refine gate_builtin (b := .append) (xs := #[.tmp 3, .tmp 5]) rfl ?_); at_builtin; refine Kd.R_append (Kd.int .u8) (w0 := w0) w0.heap.size rfl (.tmp 3) (.tmp 5) 23 5 (.int .u8 0) 1 rfl Try.underlying23 info5 rfl (by decide) (by omega) v xs (g) [.int .u8 (g)] (fun _ => True) (fun _ => False) rfl rfl ?aP (fun _ hk => hk.elim) ?aF ?aO ?aB ?aS ?aL ?_; (case aP => exact rfl); (case aB => exact HB.out); (case aF => exact (fun _ _ => trivial)); (case aO => exact HO.out); (case aS => exact HB.out.size); (case aL => have := HL.out; omega); intro v116 w12 ho hb2 hg hat; have HO2 := Aside0.mk ho; have HB2 := Aside0.mk hb2; have HG := Aside0.mk hg; have BK2 := Aside0.mk (blk_grown BK.out hg (Kd.R_ne HO.out BK.out (by decide))); have hc2 : w12.cell? ⟨bx, 0, none⟩ = some v := (blk_cell BK2.out 0).trans rfl; obtain ⟨Ao2, co2, eo2⟩ := Kd.R_slice HO2.out; subst eo2; have hf2 := blk_frozen BK2.out 0; clear hc hf BK HO HB ho hb2 hg hat))
  go_end0
  have HO3 := HO2.out
  rw [show (xs ++ [g]).length = xs.length + 1 from by simp] at HO3
  exact ⟨rfl, .slice Ao2 (xs.length + 1) co2, blk_set BK2.out 0 _, Kd.R_set HO3 BK2.out (by decide) 0 _, below_set HB2.out hbx, hbx⟩


theorem or_lemU (acc b : Int) (h0 : 0 ≤ acc) (h2 : 0 ≤ b) (h3 : b < 128) : bits .or .u16 (IntKind.u16.wrap (acc * 128)) b = (acc * 128) % 65536 + b := by
  rw [wrap_u16]
  exact bits_join .u16 16 (by decide) wraps_u16 7 _ _ (by omega) (by omega) (by omega) (by omega) (by omega) (by omega)
theorem emit_lemU (acc : Int) (p r : Nat) (h0 : 0 ≤ acc) (h1 : acc < 65536) (hp : p = acc.toNat % 2 ^ r) (hr : 8 ≤ r) (hr2 : r ≤ 14) :
    bits .and .u16 (acc / 2 ^ (r - 8)) 255 % 256 = ((p / 2 ^ (r - 8) : Nat) : Int) ∧ ((p / 2 ^ (r - 8) : Nat) : Int) ≤ 255 ∧ p % 2 ^ (r - 8) = acc.toNat % 2 ^ (r - 8) := by
  have hr' : r = 8 ∨ r = 9 ∨ r = 10 ∨ r = 11 ∨ r = 12 ∨ r = 13 ∨ r = 14 := by omega
  rcases hr' with rfl | rfl | rfl | rfl | rfl | rfl | rfl <;> (rw [and_lem8 _ (by omega) (by omega)]; simp only [Nat.reduceSub, Nat.reducePow, Int.reducePow] at *; omega)
theorem feed_lemU (acc acc2 b : Int) (r : Nat) (h0 : 0 ≤ acc) (h1 : acc < 65536) (hb0 : 0 ≤ b) (hb1 : b ≤ 255) (h2 : acc2 = (acc * 128) % 65536 + b % 128) (hr : r < 8) :
    acc2.toNat % 2 ^ (r + 7) = acc.toNat % 2 ^ r * 2 ^ 7 + b.toNat % 2 ^ 7 := by
  have hr' : r = 0 ∨ r = 1 ∨ r = 2 ∨ r = 3 ∨ r = 4 ∨ r = 5 ∨ r = 6 ∨ r = 7 := by omega
  rcases hr' with rfl | rfl | rfl | rfl | rfl | rfl | rfl | rfl <;> (simp only [Nat.reduceAdd, Nat.reducePow] at *; omega)
theorem last_lemU (acc : Int) (r : Nat) (h0 : 0 ≤ acc) (h1 : acc < 65536) (hr0 : 0 < r) (hr : r < 8) :
    bits .and .u16 (IntKind.u16.wrap (acc * 2 ^ (8 - r))) 255 % 256 = ((acc.toNat % 2 ^ r * 2 ^ (8 - r) : Nat) : Int) ∧ ((acc.toNat % 2 ^ r * 2 ^ (8 - r) : Nat) : Int) ≤ 255 := by
  have hr' : r = 1 ∨ r = 2 ∨ r = 3 ∨ r = 4 ∨ r = 5 ∨ r = 6 ∨ r = 7 := by omega
  rw [wrap_u16]
  rcases hr' with rfl | rfl | rfl | rfl | rfl | rfl | rfl <;> (rw [and_lem8 _ (by omega) (by omega)]; simp only [Nat.reduceSub, Nat.reducePow, Int.reducePow] at *; omega)
theorem okBytes_snoc {l : List Int} {x : Int} (h : okBytes l = true) (h0 : 0 ≤ x) (h1 : x ≤ 255) : okBytes (l ++ [x]) = true := by
  unfold okBytes at *; rw [List.all_append, h]; simp; omega
set_option maxHeartbeats 1000000 in
set_option maxRecDepth 100000 in
theorem shiftU (bx : Nat) (A0 : Option Addr) (c0 : Nat) (l0 : List Int) (w0 w : World) (hC : Cap w0 bx [] w) (hr0 : Kd.C (Kd.int .u8) w0 A0 l0.length l0) (hby : ∀ j : Nat, j < l0.length → 0 ≤ rd l0 j ∧ rd l0 j ≤ 255) (hl : l0.length ≤ 1099511627776) :
   Calls Try.prog 51 #[.slice A0 l0.length c0, .int .u64 7, .int .u64 8, .func (.func 60) #[] #[.pointer (some ⟨bx,0,none⟩)]] w fun e w' => e = .returned (.int .u64 (runM 7 8 l0).2.1) ∧ okBytes (runM 7 8 l0).2.2 = true ∧ (runM 7 8 l0).2.2.length ≤ 2 * l0.length ∧ Cap w0 bx ((finM 8 (runM 7 8 l0))) w' := by
  have HC := Aside0.mk hC
  have HR := Aside0.mk hr0
  have HBY := Aside0.mk hby
  clear hC hr0 hby
  go_enter Try.func51, Try.ntmps51
  go_wp2_with fail
  go_loopw [8, 9, 11, 14] (fun v8 v9 v11 v14 W => ∃ (j : Nat) (rest : Nat) (acc : Int) (out : List Int), v8 = .int .u64 rest ∧ v9 = .int .u16 acc ∧ v14 = .int .i64 j ∧ j ≤ l0.length ∧ rest < 8 ∧ 0 ≤ acc ∧ acc < 65536 ∧ Aside0 (runM 7 8 (l0.take j) = (acc.toNat % 2^rest, rest, out)) ∧ Aside0 (out.length ≤ 2 * j ∧ okBytes out = true) ∧ Aside0 (Cap w0 bx out W)) (fun _ _ _ v14 _ => l0.length - (intOf v14).toNat)
  case atStart => exact ⟨0, 0, 0, [], rfl, rfl, rfl, by omega, by omega, by omega, by omega, ⟨rfl⟩, ⟨by simp, rfl⟩, HC⟩
  case round =>
    obtain ⟨j, rest, acc, out, rfl, rfl, rfl, hj, hr2, ha1, ha2, HRUN, HLEN, HC⟩ := hrel
    by_cases hlt : j < l0.length
    · obtain ⟨v, hb, HO0, HB0, hbx⟩ := HC.out
      obtain ⟨ad, hA, hcell⟩ := Kd.at_int (Kd.C_below HR.out HB0) (j : Int) (by omega) (by omega)
      rw [Int.toNat_natCast] at hcell
      clear hb HO0 HB0 hbx v
      subst hA
      obtain ⟨hb0, hb1⟩ := HBY.out j hlt
      obtain ⟨b, hbe⟩ : ∃ b, b = rd l0 j := ⟨_, rfl⟩
      rw [← hbe] at hcell hb0 hb1
      have HBE := Aside0.mk hbe
      clear hbe
      obtain ⟨b2, hb2e⟩ : ∃ b2, b2 = b % 128 := ⟨_, rfl⟩
      have hand : bits .and .u16 b 127 = b2 := by rw [and_lem7 b hb0 (by omega)]; omega
      have hor := or_lemU acc b2 ha1 (by omega) (by omega)
      obtain ⟨acc2, hacc2⟩ : ∃ acc2, acc2 = (acc * 128) % 65536 + b2 := ⟨_, rfl⟩
      rw [← hacc2] at hor
      have h20 : 0 ≤ acc2 := by omega
      have h21 : acc2 < 65536 := by omega
      have hacc3 : acc2 = (acc * 128) % 65536 + b % 128 := by omega
      have HACC := Aside0.mk hacc3
      clear hacc2 hacc3 hb2e
      go_wp2_with fail
      clear hor hand hcell
      go_loopw [8] (fun v8 W => ∃ (k p r : Nat) (o2 : List Int), v8 = .int .u64 r ∧ r < 8 * (k + 1) ∧ r ≤ 14 ∧ Aside0 (p = acc2.toNat % 2^r) ∧ Aside0 (o2.length + k ≤ 2 * j + 2 ∧ okBytes o2 = true) ∧ Aside0 (drainM 8 k p r o2 = runM 7 8 (l0.take (j+1))) ∧ Aside0 (Cap w0 bx o2 W)) (fun v8 _ => (intOf v8).toNat)
      case atStart => exact ⟨2, acc2.toNat % 2 ^ (rest + 7), rest + 7, out, by go_num, by omega, by omega, ⟨rfl⟩, ⟨by have := HLEN.out.1; omega, HLEN.out.2⟩, ⟨by rw [run_snoc 7 8 l0 j hlt, HRUN.out, feedM, ← HBE.out, feed_lemU acc acc2 b rest ha1 ha2 hb0 hb1 HACC.out (by omega)]⟩, HC⟩
      case round =>
        obtain ⟨k, p, r, o2, rfl, hrk, hr14, HP, HL2, HD, HC2⟩ := hrel
        by_cases hge : 8 ≤ r
        · obtain ⟨e1, e2, e3⟩ := emit_lemU acc2 p r h20 h21 HP.out hge hr14
          obtain ⟨k, rfl⟩ : ∃ k', k = k' + 1 := ⟨k - 1, by omega⟩
          have HD2 := HD.out
          rw [drainM, if_pos hge] at HD2
          have E1 := Aside0.mk e1
          have E3 := Aside0.mk e3
          have HD3 := Aside0.mk HD2
          clear e1 e3 HD2
          go_wp2_with fail
          rw [E1.out]
          obtain ⟨q, hq⟩ : ∃ q : Nat, q = p / 2 ^ (r - 8) := ⟨_, rfl⟩
          have HQ := Aside0.mk hq
          rw [← hq]
          rw [← hq] at e2
          clear hq
          refine (unpack1 bx _ q w0 _ HC2.out (by simp; have := HL2.out.1; omega) (by omega) e2).mono ?_
          rintro e W2 ⟨rfl, hc2⟩
          have HC3 := Aside0.mk hc2
          clear hc2
          go_wp2_with fail
          go_roundw
          case rel => exact ⟨k, p % 2 ^ (r - 8), r - 8, o2 ++ [(q : Int)], by go_num, by omega, by omega, E3, ⟨by have := HL2.out.1; simp; omega, okBytes_snoc HL2.out.2 (by omega) e2⟩, ⟨by rw [HQ.out]; exact HD3.out⟩, ⟨by simpa using HC3.out⟩⟩
          case measure => simp [intOf]; omega
        · have HD2 := HD.out
          have hd : drainM 8 k p r o2 = (p, r, o2) := by cases k with
            | zero => rfl
            | succ k => rw [drainM, if_neg hge]
          rw [hd] at HD2
          have HD3 := Aside0.mk HD2
          clear hd HD2
          go_wp2_with fail
          refine ⟨⟨j + 1, r, acc2, o2, rfl, rfl, by go_num, by omega, by omega, h20, h21, ⟨by rw [← HD3.out, HP.out]⟩, ⟨by have := HL2.out.1; omega, HL2.out.2⟩, HC2⟩, ?_⟩
          simp [intOf]; omega
    · have hj2 : l0.take j = l0 := List.take_of_length_le (by omega)
      have HR2 := HRUN.out
      rw [hj2] at HR2
      have HR3 := Aside0.mk HR2
      clear hj2 HR2 HRUN
      by_cases hz : rest = 0
      · subst hz
        go_wp2_with fail
        go_ret
        exact ⟨by rw [HR3.out]; rfl, by rw [HR3.out]; exact HLEN.out.2, by rw [HR3.out]; have := HLEN.out.1; show out.length ≤ _; omega, by rw [HR3.out]; exact HC.out⟩
      · obtain ⟨e1, e2⟩ := last_lemU acc rest ha1 ha2 (by omega) hr2
        obtain ⟨q, hq⟩ : ∃ q : Nat, q = acc.toNat % 2 ^ rest * 2 ^ (8 - rest) := ⟨_, rfl⟩
        rw [← hq] at e1 e2
        have HQ := Aside0.mk hq
        have E1 := Aside0.mk e1
        clear hq e1
        go_wp2_with fail
        rw [E1.out]
        refine (unpack1 bx _ q w0 _ HC.out (by simp; have := HLEN.out.1; omega) (by omega) e2).mono ?_
        rintro e W2 ⟨rfl, hc2⟩
        have HC3 := Aside0.mk hc2
        clear hc2
        go_wp2_with fail
        go_ret
        exact ⟨by rw [HR3.out]; rfl, by rw [HR3.out]; exact HLEN.out.2, by rw [HR3.out]; have := HLEN.out.1; show out.length ≤ _; omega, by rw [HR3.out, finM, if_pos (by show 0 < rest; omega), ← HQ.out]; simpa using HC3.out⟩

theorem okBytes_pack (l : List Int) : okBytes (packM l) = true := by
  unfold okBytes packM; rw [List.all_eq_true]; intro x hx
  obtain ⟨g, _, rfl⟩ := List.mem_map.1 hx
  simp only [decide_eq_true_eq]; omega
theorem strs_eq (a b : List Int) (ha : okBytes a = true) (hb : okBytes b = true) : ((strOfNums a).toList == (strOfNums b).toList) = decide (a = b) := by
  by_cases h : a = b
  · subst h; simp
  · rw [decide_eq_false h, beq_eq_false_iff_ne, Lib.strOfNums_toList, Lib.strOfNums_toList]
    intro he
    apply h
    have hlen : a.length = b.length := by simpa [Lib.bytesOf] using congrArg List.length he
    apply List.ext_getElem hlen
    intro n h1 h2
    have e := congrArg (fun l => l[n]?) he
    simp only [Lib.bytesOf, List.getElem?_map, List.getElem?_eq_getElem h1, List.getElem?_eq_getElem h2, Option.map_some, Option.some.injEq] at e
    unfold okBytes at ha hb
    rw [List.all_eq_true] at ha hb
    have ha1 := ha a[n] (List.getElem_mem h1)
    have hb1 := hb b[n] (List.getElem_mem h2)
    simp only [decide_eq_true_eq] at ha1 hb1
    have e2 := congrArg UInt8.toNat e
    simp at e2
    omega
theorem below_lower {w W : World} {o : Obj} (h : Below (w.alloc o).heap.size (w.alloc o) W) : Below (w.alloc o).heap.size (w.alloc o) W := h
def unpackM (l0 : List Int) : List Int := if packM (runM 7 8 l0).2.2 = l0 then (runM 7 8 l0).2.2 else []
def impl_Unpack.f (l0 : List Int) : Option (List Int) := if okBytes l0 = true ∧ l0.length ≤ 549755813888 then some (unpackM l0) else none
set_option maxHeartbeats 1000000 in
set_option maxRecDepth 100000 in
theorem impl_Unpack.calls (A0 : Option Addr) (c0 : Nat) (l0 : List Int) (r : List Int) (w : World) (hr0 : Kd.C (Kd.int .u8) w A0 l0.length l0) (hc0 : l0.length ≤ c0) (h : impl_Unpack.f l0 = some r) :
    Calls Try.prog 34 #[.slice A0 l0.length c0] w fun e w' => ∃ v0_ : Value, e = .returned (.agg #[v0_]) ∧ Kd.R (Kd.int .u8) 5 w' w.heap.size (fun _ => True) v0_ r ∧ Below w.heap.size w w' := by
  unfold impl_Unpack.f at h
  obtain ⟨⟨hok, hlen⟩, rfl⟩ : (okBytes l0 = true ∧ l0.length ≤ 549755813888) ∧ unpackM l0 = r := by
    split at h
    · exact ⟨‹_›, Option.some.inj h⟩
    · cases h
  clear h
  have HOK := Aside0.mk hok
  have HR0 := Aside0.mk hr0
  clear hok hr0
  have hmf : ∀ (fn : Fn) (first cap : Array Value) (w : World), (Instr.makeFunc fn first cap).run Try.prog w = .ok (.func fn first cap) w := fun _ _ _ _ => rfl
  go_enter Try.func34, Try.ntmps34
  go_wp2_with fail
  have hb1 := blk_new (w.alloc (.cells #[.slice none 0 0] 33)) (.cells #[.slice none 0 0] 23)
  rw [World.size_alloc] at hb1
  refine (shiftU (w.heap.size + 1) A0 c0 l0 (w.alloc (.cells #[.slice none 0 0] 33)) _ ⟨_, hb1, Kd.R_nil _ _ _ _ _, below_alloc (Below.refl _ _) _, by simp⟩ (Kd.C_below HR0.out (below_alloc (Below.refl _ _) _)) (okBytes_rd HOK.out) (by omega)).mono ?_
  rintro e W ⟨rfl, hoo, hol, hcap⟩
  clear hb1
  obtain ⟨o, ho⟩ : ∃ o, o = (runM 7 8 l0).2.2 := ⟨_, rfl⟩
  obtain ⟨rr, hrr⟩ : ∃ rr, rr = (runM 7 8 l0).2.1 := ⟨_, rfl⟩
  obtain ⟨q, hq⟩ : ∃ q : Int, q = (((runM 7 8 l0).1 * 2 ^ (8 - (runM 7 8 l0).2.1) : Nat) : Int) := ⟨_, rfl⟩
  have hum : unpackM l0 = if packM o = l0 then o else [] := by rw [unpackM, ← ho]
  unfold finM at hcap
  rw [← hq] at hcap
  rw [← ho, ← hrr] at hcap
  rw [← ho] at hoo hol
  rw [← hrr]
  have HUM := Aside0.mk hum
  have HOO := Aside0.mk hoo
  clear hum hq ho hrr hoo
  by_cases hz : rr = 0
  · subst hz
    rw [if_neg (by omega)] at hcap
    obtain ⟨v, hb, HO, HB, hbx⟩ := hcap
    have hc : W.cell? ⟨w.heap.size + 1, 0, none⟩ = some v := (blk_cell hb 0).trans rfl
    obtain ⟨Ao, co, eo, hlo, hCo⟩ := Kd.R_reads HO
    subst eo
    have BK := Aside0.mk hb
    have HO2 := Aside0.mk HO
    have HB2 := Aside0.mk HB
    have HCO := Aside0.mk hCo
    clear hb HO HB hCo
    have hpk : okBytes (packM o) = true := okBytes_pack o
    have HPK := Aside0.mk hpk
    clear hpk
    have hb33 := HB2.out.block w.heap.size (by simp)
    have RB := Aside0.mk (hb33.trans (blk_new w (.cells #[.slice none 0 0] 33)))
    clear hb33
    go_wp2_with fail
    refine (impl_Pack.calls Ao co o (packM o) _ HCO.out hlo (by unfold impl_Pack.f; rw [if_pos ⟨HOO.out, by omega⟩])).mono ?_
    rintro e W3 ⟨v3, rfl, hv3, hb3⟩
    obtain ⟨A3, c3, e3, hl3, hC3⟩ := Kd.R_reads hv3
    subst e3
    have RB3 := Aside0.mk (blk_below RB.out hb3)
    have BK3 := Aside0.mk (blk_below BK.out hb3)
    have HO3 := Aside0.mk (Kd.R_below HO2.out hb3)
    have HB3 := Aside0.mk (below_then HB2.out HB2.out.size hb3)
    have HC3 := Aside0.mk hC3
    have hc3b : W3.cell? ⟨w.heap.size + 1, 0, none⟩ = some (.slice Ao o.length co) := (blk_cell BK3.out 0).trans rfl
    have hr3 : W3.cell? ⟨w.heap.size, 0, none⟩ = some (.slice none 0 0) := (blk_cell RB3.out 0).trans rfl
    have hr3f := blk_frozen RB3.out 0
    obtain ⟨pk, hpke⟩ : ∃ pk, pk = packM o := ⟨_, rfl⟩
    rw [← hpke] at HC3 hl3 HPK
    have HUM2 := HUM.out
    rw [← hpke] at HUM2
    rw [← hpke]
    have HUM3 := Aside0.mk HUM2
    clear hc hv3 hb3 hC3 RB BK HO2 HB2 hpke HUM HUM2
    go_wp2_with fail
    have heb := strs_eq pk l0 HPK.out HOK.out
    refine (bytes_Equal.calls A3 c3 pk A0 c0 l0 _ W3 HC3.out hl3 (Kd.C_below HR0.out (below_then (below_alloc (Below.refl _ _) _) (by simp) (below_lower HB3.out))) hc0 rfl).mono ?_
    rintro e W4 ⟨rfl, ⟨n4, rfl⟩⟩
    rw [heb]
    clear heb
    by_cases heq : pk = l0
    · rw [decide_eq_true heq]
      have HUM4 := HUM3.out
      rw [if_pos heq] at HUM4
      have HU := Aside0.mk HUM4
      clear HUM3 HUM4 heq
      go_wp2
      refine bodyPost_ret (results_cell_row rfl _ _ w.heap.size 33 #[.slice Ao o.length co] (0, 0) _ rfl (blk_put (cs := #[.slice none 0 0]) (blk_drewN RB3.out n4) 0 _ rfl) Try.underlying33 rfl (by kernel_rfl)) rfl ?_
      exact ⟨_, rfl, by rw [HU.out]; exact Kd.R_lower (Kd.R_mono (Kd.R_far (p := ⟨w.heap.size, 0, none⟩) (Kd.R_types (Kd.R_drewN HO3.out n4) (blk_drewN RB3.out n4) (by decide)) (fun _ hk => hk.2) _) (fun _ hk => trivial)) (by simp), below_set (pw_below_drewN (below_then (below_alloc (Below.refl w.heap.size w) (.cells #[.slice none 0 0] 33)) (by simp) HB3.out) n4) (Nat.le_refl _)⟩
    · rw [decide_eq_false heq]
      have HUM4 := HUM3.out
      rw [if_neg heq] at HUM4
      have HU := Aside0.mk HUM4
      clear HUM3 HUM4 heq
      go_wp2
      refine bodyPost_ret (results_cell_row rfl _ _ w.heap.size 33 #[.slice none 0 0] (0, 0) _ rfl (blk_put (cs := #[.slice none 0 0]) (blk_drewN RB3.out n4) 0 _ rfl) Try.underlying33 rfl (by kernel_rfl)) rfl ?_
      exact ⟨_, rfl, by rw [HU.out]; exact Kd.R_nil _ _ _ _ _, below_set (pw_below_drewN (below_then (below_alloc (Below.refl w.heap.size w) (.cells #[.slice none 0 0] 33)) (by simp) HB3.out) n4) (Nat.le_refl _)⟩
  · rw [if_pos (by omega)] at hcap
    obtain ⟨v, hb, HO, HB, hbx⟩ := hcap
    have hc : W.cell? ⟨w.heap.size + 1, 0, none⟩ = some v := (blk_cell hb 0).trans rfl
    obtain ⟨Ao, co, eo, hlo, hCo⟩ := Kd.R_reads HO
    subst eo
    have BK := Aside0.mk hb
    have HO2 := Aside0.mk HO
    have HB2 := Aside0.mk HB
    have HCO := Aside0.mk hCo
    clear hb HO HB hCo
    have hf := blk_frozen BK.out 0
    have hpos : 0 < rr := by omega
    have hlo2 : o.length + 1 ≤ co := by simpa using hlo
    clear hlo
    go_wp2_with fail
    have HO3' := Kd.R_take HO2.out (m := o.length) (by simp)
    rw [List.take_left' rfl] at HO3'
    have hne : ∀ (x : Value), Kd.R (Kd.int .u8) 5 (W.setCell ⟨w.heap.size + 1, 0, none⟩ x) (w.alloc (.cells #[.slice none 0 0] 33)).heap.size (fun _ => True) (.slice Ao o.length co) o := fun x => Kd.R_set HO3' BK.out (by decide) 0 x
    have hbk := blk_set BK.out 0 (.slice Ao o.length co)
    have hbl : Below (w.alloc (.cells #[.slice none 0 0] 33)).heap.size (w.alloc (.cells #[.slice none 0 0] 33)) (W.setCell ⟨w.heap.size + 1, 0, none⟩ (.slice Ao o.length co)) := below_set HB2.out (by simp)
    have hro := hne (.slice Ao o.length co)
    clear hne HO3' BK HO2 HB2 HCO hc hf
    generalize W.setCell ⟨w.heap.size + 1, 0, none⟩ (.slice Ao o.length co) = W2 at *
    clear W
    rename World => W
    obtain ⟨_, _, eo, hlo, hCo⟩ := Kd.R_reads hro
    injection eo with e1 _ e2
    subst e1 e2
    have hc : W.cell? ⟨w.heap.size + 1, 0, none⟩ = some (.slice Ao o.length co) := (blk_cell hbk 0).trans rfl
    have BK : Aside0 (W.heap[w.heap.size + 1]? = some (.cells #[.slice Ao o.length co] 23 (0, 0))) := Aside0.mk hbk
    have HO2 := Aside0.mk hro
    have HB2 := Aside0.mk hbl
    have HCO := Aside0.mk hCo
    clear hbk hro hbl hCo
    have hpk : okBytes (packM o) = true := okBytes_pack o
    have HPK := Aside0.mk hpk
    clear hpk
    have hb33 := HB2.out.block w.heap.size (by simp)
    have RB := Aside0.mk (hb33.trans (blk_new w (.cells #[.slice none 0 0] 33)))
    clear hb33
    refine (impl_Pack.calls Ao co o (packM o) _ HCO.out hlo (by unfold impl_Pack.f; rw [if_pos ⟨HOO.out, by omega⟩])).mono ?_
    rintro e W3 ⟨v3, rfl, hv3, hb3⟩
    obtain ⟨A3, c3, e3, hl3, hC3⟩ := Kd.R_reads hv3
    subst e3
    have RB3 := Aside0.mk (blk_below RB.out hb3)
    have BK3 := Aside0.mk (blk_below BK.out hb3)
    have HO3 := Aside0.mk (Kd.R_below HO2.out hb3)
    have HB3 := Aside0.mk (below_then HB2.out HB2.out.size hb3)
    have HC3 := Aside0.mk hC3
    have hc3b : W3.cell? ⟨w.heap.size + 1, 0, none⟩ = some (.slice Ao o.length co) := (blk_cell BK3.out 0).trans rfl
    have hr3 : W3.cell? ⟨w.heap.size, 0, none⟩ = some (.slice none 0 0) := (blk_cell RB3.out 0).trans rfl
    have hr3f := blk_frozen RB3.out 0
    obtain ⟨pk, hpke⟩ : ∃ pk, pk = packM o := ⟨_, rfl⟩
    rw [← hpke] at HC3 hl3 HPK
    have HUM2 := HUM.out
    rw [← hpke] at HUM2
    rw [← hpke]
    have HUM3 := Aside0.mk HUM2
    clear hc hv3 hb3 hC3 RB BK HO2 HB2 hpke HUM HUM2
    go_wp2_with fail
    have heb := strs_eq pk l0 HPK.out HOK.out
    refine (bytes_Equal.calls A3 c3 pk A0 c0 l0 _ W3 HC3.out hl3 (Kd.C_below HR0.out (below_then (below_alloc (Below.refl _ _) _) (by simp) (below_lower HB3.out))) hc0 rfl).mono ?_
    rintro e W4 ⟨rfl, ⟨n4, rfl⟩⟩
    rw [heb]
    clear heb
    by_cases heq : pk = l0
    · rw [decide_eq_true heq]
      have HUM4 := HUM3.out
      rw [if_pos heq] at HUM4
      have HU := Aside0.mk HUM4
      clear HUM3 HUM4 heq
      go_wp2
      refine bodyPost_ret (results_cell_row rfl _ _ w.heap.size 33 #[.slice Ao o.length co] (0, 0) _ rfl (blk_put (cs := #[.slice none 0 0]) (blk_drewN RB3.out n4) 0 _ rfl) Try.underlying33 rfl (by kernel_rfl)) rfl ?_
      exact ⟨_, rfl, by rw [HU.out]; exact Kd.R_lower (Kd.R_mono (Kd.R_far (p := ⟨w.heap.size, 0, none⟩) (Kd.R_types (Kd.R_drewN HO3.out n4) (blk_drewN RB3.out n4) (by decide)) (fun _ hk => hk.2) _) (fun _ hk => trivial)) (by simp), below_set (pw_below_drewN (below_then (below_alloc (Below.refl w.heap.size w) (.cells #[.slice none 0 0] 33)) (by simp) HB3.out) n4) (Nat.le_refl _)⟩
    · rw [decide_eq_false heq]
      have HUM4 := HUM3.out
      rw [if_neg heq] at HUM4
      have HU := Aside0.mk HUM4
      clear HUM3 HUM4 heq
      go_wp2
      refine bodyPost_ret (results_cell_row rfl _ _ w.heap.size 33 #[.slice none 0 0] (0, 0) _ rfl (blk_put (cs := #[.slice none 0 0]) (blk_drewN RB3.out n4) 0 _ rfl) Try.underlying33 rfl (by kernel_rfl)) rfl ?_
      exact ⟨_, rfl, by rw [HU.out]; exact Kd.R_nil _ _ _ _ _, below_set (pw_below_drewN (below_then (below_alloc (Below.refl w.heap.size w) (.cells #[.slice none 0 0] 33)) (by simp) HB3.out) n4) (Nat.le_refl _)⟩

/-! ### laws_eqPayload: function 35 -/
def laws_eqPayload.f (k : Nat) (l0_0 : List Int) (l1_0 : List Int) : Option (Bool) := (laws_eqByteS.f k l0_0 l1_0).bind fun t143 => (if t143 = true then (some true) else (some false))
theorem laws_eqPayload.mono : ∀ a0 a1 k, LeO (laws_eqPayload.f k a0 a1) (laws_eqPayload.f (k + 1) a0 a1) := by
  intro a0 a1 k
  unfold laws_eqPayload.f
  repeat' first
      | (with_reducible exact laws_eqByteS.mono _ _ _)
      | (with_reducible exact LeO.refl _)
      | (with_reducible exact LeO.none _)
      | (with_reducible refine LeO.ite ?_ ?_)
      | (with_reducible refine LeO.bind ?_ (fun _ => ?_))
      | exact laws_eqByteS.mono _ _ _
      | exact LeO.none _
      | refine LeO.ite ?_ ?_
      | refine LeO.bind ?_ (fun _ => ?_)
set_option maxHeartbeats 8000000 in
set_option maxRecDepth 100000 in
theorem laws_eqPayload.calls (k : Nat) (A0_0 : Option Addr) (c0_0 : Nat) (l0_0 : List Int) (A1_0 : Option Addr) (c1_0 : Nat) (l1_0 : List Int) (r : Bool) (w : World) (hr0_0 : Kd.C (Kd.int .u8) w A0_0 l0_0.length l0_0) (hc0_0 : l0_0.length ≤ c0_0) (hr1_0 : Kd.C (Kd.int .u8) w A1_0 l1_0.length l1_0) (hc1_0 : l1_0.length ≤ c1_0) (h : laws_eqPayload.f k l0_0 l1_0 = some r) :
    Calls Try.prog 35 #[.agg #[.slice A0_0 l0_0.length c0_0], .agg #[.slice A1_0 l1_0.length c1_0]] w fun e w' => e = .returned (.bool r) ∧ Below w.heap.size w w' := by
  have hu33 := Try.underlying33
  have HR0_0 := Aside0.mk hr0_0
  have HC0_0 := Aside0.mk hc0_0
  clear hr0_0 hc0_0
  have HR1_0 := Aside0.mk hr1_0
  have HC1_0 := Aside0.mk hc1_0
  clear hr1_0 hc1_0
  have HB := Aside0.mk (Below.refl w.heap.size w)
  have H : ((laws_eqByteS.f k l0_0 l1_0).bind fun t143 => (if t143 = true then (some true) else (some false))) = some r := h
  clear h
  replace H := Option.bind_eq_some_iff.mp H
  obtain ⟨t143, A30, H⟩ := H
  replace H : (if t143 = true then (some true) else (some false)) = some r := H
  have A3 := Aside0.mk A30
  clear A30
  by_cases c4 : t143 = true
  · subst c4
    have H1 : (some true) = some r := by rw [if_pos rfl] at H; exact H
    clear H
    have H := H1
    clear H1
    obtain rfl := Option.some.inj H
    go_enter Try.func35, Try.ntmps35
    go_wp2_with (first | ((with_reducible refine gate_dst (N := 2) rfl ?_); refine box_event ?hg (N := 2) ?hd (cs := #[.slice A0_0 l0_0.length c0_0]) (t := 33) ?hr ?_; (case hd => rfl); (case hg => rfl); (case hr => first | (go_simp; done) | (go_simp; rfl)); intro gb141 hg w5 hbox hb; have n0_ := Aside0.mk (below_step (by repeat (first | (with_reducible first | exact HB.out | apply below_alloc | apply pw_below_drewN | apply below_drew1) | exact HB.out)) hb); have n1_ := Aside0.mk (hbox); have n2_ := Aside0.mk ((by rw [hg]; exact (below_size (by repeat (first | (with_reducible first | exact HB.out | apply below_alloc | apply pw_below_drewN | apply below_drew1) | exact HB.out))) : w.heap.size ≤ gb141)); have n3_ := Aside0.mk ((by rw [hg]; exact (below_size (by repeat (first | (with_reducible first | exact HB.out | apply below_alloc | apply pw_below_drewN | apply below_drew1) | exact HB.out))) : w.heap.size ≤ gb141)); clear HB; have HB := n0_; have BK141 := n1_; have GW141 := n2_; have GE141 := n3_; clear n0_ n1_ n2_ n3_; clear hb hbox hg) | ((with_reducible refine gate_dst (N := 3) rfl ?_); refine box_event ?hg (N := 3) ?hd (cs := #[.slice A1_0 l1_0.length c1_0]) (t := 33) ?hr ?_; (case hd => rfl); (case hg => rfl); (case hr => first | (go_simp; done) | (go_simp; rfl)); intro gb142 hg w6 hbox hb; have n0_ := Aside0.mk (blk_below (g := gb141) (o := .cells #[.slice A0_0 l0_0.length c0_0] 33 (0, 0)) (by (with_reducible repeat (first | refine blk_drewN ?_ _ | refine blk_drew ?_ | refine blk_alloc ?_ _)); exact BK141.out) hb); have n1_ := Aside0.mk (below_step (by repeat (first | (with_reducible first | exact HB.out | apply below_alloc | apply pw_below_drewN | apply below_drew1 | refine below_set ?_ GE141.out) | exact HB.out)) hb); have n2_ := Aside0.mk (hbox); have n3_ := Aside0.mk ((by rw [hg]; exact (below_size (by repeat (first | (with_reducible first | exact HB.out | apply below_alloc | apply pw_below_drewN | apply below_drew1 | refine below_set ?_ GE141.out) | exact HB.out))) : w.heap.size ≤ gb142)); have n4_ := Aside0.mk ((by rw [hg]; exact (below_size (by repeat (first | (with_reducible first | exact HB.out | apply below_alloc | apply pw_below_drewN | apply below_drew1 | refine below_set ?_ GE141.out) | exact HB.out))) : w.heap.size ≤ gb142)); have n5_ := Aside0.mk ((by rw [hg]; exact Nat.ne_of_lt (blk_lt (g := gb141) (o := .cells #[.slice A0_0 l0_0.length c0_0] 33 (0, 0)) (by (with_reducible repeat (first | refine blk_drewN ?_ _ | refine blk_drew ?_ | refine blk_alloc ?_ _)); exact BK141.out)) : gb141 ≠ gb142)); have n6_ := Aside0.mk ((by rw [hg]; exact Nat.ne_of_gt (blk_lt (g := gb141) (o := .cells #[.slice A0_0 l0_0.length c0_0] 33 (0, 0)) (by (with_reducible repeat (first | refine blk_drewN ?_ _ | refine blk_drew ?_ | refine blk_alloc ?_ _)); exact BK141.out)) : gb142 ≠ gb141)); clear BK141; clear HB; have BK141 := n0_; have HB := n1_; have BK142 := n2_; have GW142 := n3_; have GE142 := n4_; have NB141_142 := n5_; have NB142_141 := n6_; clear n0_ n1_ n2_ n3_ n4_ n5_ n6_; clear hb hbox hg; have hnb7 := NB141_142.out; have hnc7 := NB142_141.out; have hcz8_0 : w6.cell? ⟨gb141, 0, none⟩ = some (.slice A0_0 l0_0.length c0_0) := (blk_cell BK141.out 0).trans rfl; have hfz8_0 := blk_frozen BK141.out 0; have hcz9_0 : w6.cell? ⟨gb142, 0, none⟩ = some (.slice A1_0 l1_0.length c1_0) := (blk_cell BK142.out 0).trans rfl; have hfz9_0 := blk_frozen BK142.out 0) | ((with_reducible refine gate_callee (f := 19) rfl ?_); refine goesL_ (some 9) rfl rfl Try.func19 (by kernel_rfl) rfl #[.slice A0_0 l0_0.length c0_0, .slice A1_0 l1_0.length c1_0] rfl (by (try simp only [List.map_toArray, List.map_cons, List.map_nil]); first | done | rfl | (simp only [List.length_drop, List.length_take]; rfl)) ?_; (with_reducible refine (laws_eqByteS.calls k _ _ l0_0 _ _ l1_0 true _ ?side1 ?side2 ?side3 ?side4 A3.out).mono ?_); (case side1 => repeat (first | exact (Kd.C_below HR0_0.out HB.out) | (with_reducible refine Kd.C_alloc ?_ _) | (with_reducible refine Kd.C_drewN ?_ _) | (with_reducible refine Kd.C_drew ?_))); (case side2 => exact HC0_0.out); (case side3 => repeat (first | exact (Kd.C_below HR1_0.out HB.out) | (with_reducible refine Kd.C_alloc ?_ _) | (with_reducible refine Kd.C_drewN ?_ _) | (with_reducible refine Kd.C_drew ?_))); (case side4 => exact HC1_0.out); rintro e w' ⟨rfl, ⟨nd, rfl⟩⟩; refine ⟨_, rfl, ?_⟩))
    go_ret
    exact ⟨by first | rfl | (simp [errW_none, errW_some] <;> rfl) | (simp [*, errW_none, errW_some] <;> rfl), by repeat (first | (with_reducible first | exact HB.out | apply below_alloc | apply pw_below_drewN | apply below_drew1 | refine below_set ?_ GE141.out | refine below_set ?_ GE142.out) | exact HB.out)⟩
  · replace c4 := Bool.eq_false_iff.mpr c4
    subst c4
    have H1 : (some false) = some r := by rw [if_neg (show ¬ (false = true) by decide)] at H; exact H
    clear H
    have H := H1
    clear H1
    obtain rfl := Option.some.inj H
    go_enter Try.func35, Try.ntmps35
    go_wp2_with (first | ((with_reducible refine gate_dst (N := 2) rfl ?_); refine box_event ?hg (N := 2) ?hd (cs := #[.slice A0_0 l0_0.length c0_0]) (t := 33) ?hr ?_; (case hd => rfl); (case hg => rfl); (case hr => first | (go_simp; done) | (go_simp; rfl)); intro gb141 hg w10 hbox hb; have n0_ := Aside0.mk (below_step (by repeat (first | (with_reducible first | exact HB.out | apply below_alloc | apply pw_below_drewN | apply below_drew1) | exact HB.out)) hb); have n1_ := Aside0.mk (hbox); have n2_ := Aside0.mk ((by rw [hg]; exact (below_size (by repeat (first | (with_reducible first | exact HB.out | apply below_alloc | apply pw_below_drewN | apply below_drew1) | exact HB.out))) : w.heap.size ≤ gb141)); have n3_ := Aside0.mk ((by rw [hg]; exact (below_size (by repeat (first | (with_reducible first | exact HB.out | apply below_alloc | apply pw_below_drewN | apply below_drew1) | exact HB.out))) : w.heap.size ≤ gb141)); clear HB; have HB := n0_; have BK141 := n1_; have GW141 := n2_; have GE141 := n3_; clear n0_ n1_ n2_ n3_; clear hb hbox hg) | ((with_reducible refine gate_dst (N := 3) rfl ?_); refine box_event ?hg (N := 3) ?hd (cs := #[.slice A1_0 l1_0.length c1_0]) (t := 33) ?hr ?_; (case hd => rfl); (case hg => rfl); (case hr => first | (go_simp; done) | (go_simp; rfl)); intro gb142 hg w11 hbox hb; have n0_ := Aside0.mk (blk_below (g := gb141) (o := .cells #[.slice A0_0 l0_0.length c0_0] 33 (0, 0)) (by (with_reducible repeat (first | refine blk_drewN ?_ _ | refine blk_drew ?_ | refine blk_alloc ?_ _)); exact BK141.out) hb); have n1_ := Aside0.mk (below_step (by repeat (first | (with_reducible first | exact HB.out | apply below_alloc | apply pw_below_drewN | apply below_drew1 | refine below_set ?_ GE141.out) | exact HB.out)) hb); have n2_ := Aside0.mk (hbox); have n3_ := Aside0.mk ((by rw [hg]; exact (below_size (by repeat (first | (with_reducible first | exact HB.out | apply below_alloc | apply pw_below_drewN | apply below_drew1 | refine below_set ?_ GE141.out) | exact HB.out))) : w.heap.size ≤ gb142)); have n4_ := Aside0.mk ((by rw [hg]; exact (below_size (by repeat (first | (with_reducible first | exact HB.out | apply below_alloc | apply pw_below_drewN | apply below_drew1 | refine below_set ?_ GE141.out) | exact HB.out))) : w.heap.size ≤ gb142)); have n5_ := Aside0.mk ((by rw [hg]; exact Nat.ne_of_lt (blk_lt (g := gb141) (o := .cells #[.slice A0_0 l0_0.length c0_0] 33 (0, 0)) (by (with_reducible repeat (first | refine blk_drewN ?_ _ | refine blk_drew ?_ | refine blk_alloc ?_ _)); exact BK141.out)) : gb141 ≠ gb142)); have n6_ := Aside0.mk ((by rw [hg]; exact Nat.ne_of_gt (blk_lt (g := gb141) (o := .cells #[.slice A0_0 l0_0.length c0_0] 33 (0, 0)) (by (with_reducible repeat (first | refine blk_drewN ?_ _ | refine blk_drew ?_ | refine blk_alloc ?_ _)); exact BK141.out)) : gb142 ≠ gb141)); clear BK141; clear HB; have BK141 := n0_; have HB := n1_; have BK142 := n2_; have GW142 := n3_; have GE142 := n4_; have NB141_142 := n5_; have NB142_141 := n6_; clear n0_ n1_ n2_ n3_ n4_ n5_ n6_; clear hb hbox hg; have hnb12 := NB141_142.out; have hnc12 := NB142_141.out; have hcz13_0 : w11.cell? ⟨gb141, 0, none⟩ = some (.slice A0_0 l0_0.length c0_0) := (blk_cell BK141.out 0).trans rfl; have hfz13_0 := blk_frozen BK141.out 0; have hcz14_0 : w11.cell? ⟨gb142, 0, none⟩ = some (.slice A1_0 l1_0.length c1_0) := (blk_cell BK142.out 0).trans rfl; have hfz14_0 := blk_frozen BK142.out 0) | ((with_reducible refine gate_callee (f := 19) rfl ?_); refine goesL_ (some 9) rfl rfl Try.func19 (by kernel_rfl) rfl #[.slice A0_0 l0_0.length c0_0, .slice A1_0 l1_0.length c1_0] rfl (by (try simp only [List.map_toArray, List.map_cons, List.map_nil]); first | done | rfl | (simp only [List.length_drop, List.length_take]; rfl)) ?_; (with_reducible refine (laws_eqByteS.calls k _ _ l0_0 _ _ l1_0 false _ ?side1 ?side2 ?side3 ?side4 A3.out).mono ?_); (case side1 => repeat (first | exact (Kd.C_below HR0_0.out HB.out) | (with_reducible refine Kd.C_alloc ?_ _) | (with_reducible refine Kd.C_drewN ?_ _) | (with_reducible refine Kd.C_drew ?_))); (case side2 => exact HC0_0.out); (case side3 => repeat (first | exact (Kd.C_below HR1_0.out HB.out) | (with_reducible refine Kd.C_alloc ?_ _) | (with_reducible refine Kd.C_drewN ?_ _) | (with_reducible refine Kd.C_drew ?_))); (case side4 => exact HC1_0.out); rintro e w' ⟨rfl, ⟨nd, rfl⟩⟩; refine ⟨_, rfl, ?_⟩))
    go_ret
    exact ⟨by first | rfl | (simp [errW_none, errW_some] <;> rfl) | (simp [*, errW_none, errW_some] <;> rfl), by repeat (first | (with_reducible first | exact HB.out | apply below_alloc | apply pw_below_drewN | apply below_drew1 | refine below_set ?_ GE141.out | refine below_set ?_ GE142.out) | exact HB.out)⟩

/-! ### laws_markPayload: function 36 -/
def laws_markPayload.f (k : Nat) (l0_0 : List Int) (a1 : Int) : Option (Int × List Int) := (laws_markByteS.f k l0_0 a1).bind fun bt145 => (some (bt145.1, bt145.2))
theorem laws_markPayload.mono : ∀ a0 a1 k, LeO (laws_markPayload.f k a0 a1) (laws_markPayload.f (k + 1) a0 a1) := by
  intro a0 a1 k
  unfold laws_markPayload.f
  repeat' first
      | (with_reducible exact laws_markByteS.mono _ _ _)
      | (with_reducible exact LeO.refl _)
      | (with_reducible exact LeO.none _)
      | (with_reducible refine LeO.ite ?_ ?_)
      | (with_reducible refine LeO.bind ?_ (fun _ => ?_))
      | exact laws_markByteS.mono _ _ _
      | exact LeO.none _
      | refine LeO.ite ?_ ?_
      | refine LeO.bind ?_ (fun _ => ?_)
set_option maxHeartbeats 8000000 in
set_option maxRecDepth 100000 in
theorem laws_markPayload.calls (k : Nat) (P0_0_ : Nat → Prop) (u9000_ : Value) (l0_0 : List Int) (a1 : Int) (r1 : Int) (r2 : List Int) (w0 w : World) (hB : Below w0.heap.size w0 w) (ho0_0 : Kd.R (Kd.int .u8) 5 w w0.heap.size P0_0_ u9000_ l0_0) (h : laws_markPayload.f k l0_0 a1 = some (r1, r2)) :
    Calls Try.prog 36 #[.agg #[u9000_], .int .i64 a1] w fun e w' => e = .returned (.int .i64 r1) ∧ Kd.R (Kd.int .u8) 5 w' w0.heap.size (fun k_ => (P0_0_ k_ ∨ w.heap.size ≤ k_)) u9000_ r2 ∧ Below w0.heap.size w0 w' ∧ Kept w w' (fun k_ => P0_0_ k_) := by
  have hu33 := Try.underlying33
  have HO0_0 := Aside0.mk (show Kd.R (Kd.int .u8) 5 w w0.heap.size (fun k_ => (P0_0_ k_ ∨ w.heap.size ≤ k_)) u9000_ l0_0 from Kd.R_mono ho0_0 (fun k_ hk => (.inl hk)))
  have HK := Aside0.mk (Kept.refl w (fun k_ => P0_0_ k_))
  have HW0 := Aside0.mk hB.size
  have HB := Aside0.mk hB
  clear hB
  have H : ((laws_markByteS.f k l0_0 a1).bind fun bt145 => (some (bt145.1, bt145.2))) = some (r1, r2) := h
  clear h
  replace H := Option.bind_eq_some_iff.mp H
  obtain ⟨⟨t145, t146⟩, A30, H⟩ := H
  replace H : (some (t145, t146)) = some (r1, r2) := H
  have A3 := Aside0.mk A30
  clear A30
  simp only [Option.some.injEq, Prod.mk.injEq] at H
  obtain ⟨rfl, rfl⟩ := H
  obtain ⟨Ao4, co4, eo4⟩ := Kd.R_slice HO0_0.out
  subst eo4
  go_enter Try.func36, Try.ntmps36
  go_wp2_with (first | ((with_reducible refine gate_dst (N := 2) rfl ?_); refine box_event ?hg (N := 2) ?hd (cs := #[.slice Ao4 l0_0.length co4]) (t := 33) ?hr ?_; (case hd => rfl); (case hg => rfl); (case hr => first | (go_simp; done) | (go_simp; rfl)); intro gb144 hg w5 hbox hb; have n0_ := Aside0.mk (Kd.R_below (by (with_reducible repeat (first | apply Kd.R_alloc | apply Kd.R_drewN | apply Kd.R_drew)); exact HO0_0.out) hb); have n1_ := Aside0.mk (Kept.below (S := (fun k_ => P0_0_ k_)) (by repeat (first | (with_reducible first | exact HK.out | apply Kept.alloc | apply Kept.drewN | apply Kept.drew) | exact HK.out)) hb); have n2_ := Aside0.mk (below_step (by repeat (first | (with_reducible first | exact HB.out | apply below_alloc | apply pw_below_drewN | apply below_drew1) | exact HB.out)) hb); have n3_ := Aside0.mk (hbox); have n4_ := Aside0.mk ((by rw [hg]; exact (by first | exact HK.out.1 | exact (show Kept w _ (fun k_ => P0_0_ k_) from by repeat (first | (with_reducible first | exact HK.out | apply Kept.alloc | apply Kept.drewN | apply Kept.drew) | exact HK.out)).1) : w.heap.size ≤ gb144)); have n5_ := Aside0.mk ((by rw [hg]; exact (below_size (by repeat (first | (with_reducible first | exact HB.out | apply below_alloc | apply pw_below_drewN | apply below_drew1) | exact HB.out))) : w0.heap.size ≤ gb144)); clear HO0_0; clear HK; clear HB; have HO0_0 := n0_; have HK := n1_; have HB := n2_; have BK144 := n3_; have GW144 := n4_; have GE144 := n5_; clear n0_ n1_ n2_ n3_ n4_ n5_; clear hb hbox hg; have hcz6_0 : w5.cell? ⟨gb144, 0, none⟩ = some (.slice Ao4 l0_0.length co4) := (blk_cell BK144.out 0).trans rfl; have hfz6_0 := blk_frozen BK144.out 0) | ((with_reducible refine gate_callee (f := 20) rfl ?_); refine goesL_ (some 8) rfl rfl Try.func20 (by kernel_rfl) rfl #[.slice Ao4 l0_0.length co4, .int .i64 a1] rfl (by (try simp only [List.map_toArray, List.map_cons, List.map_nil]); first | done | rfl | (simp only [List.length_drop, List.length_take]; rfl)) ?_; (with_reducible refine (laws_markByteS.calls k (fun k_ => some k_ = (.slice Ao4 l0_0.length co4 : Value).ownBlock) (.slice Ao4 l0_0.length co4) l0_0 a1 t145 t146 w0 _ ?side1 ?side2 A3.out).mono ?_); (case side1 => repeat (first | (with_reducible first | exact HB.out | apply below_alloc | apply pw_below_drewN | apply below_drew1 | refine below_set ?_ GE144.out) | exact HB.out)); (case side2 => exact Kd.R_tight rfl HO0_0.out); rintro e w7 ⟨rfl, hy0, hb, hkp⟩; refine ⟨_, rfl, ?_⟩; have n0_ := Aside0.mk (Kd.R_reok rfl hy0 (fun k_ e_ => HO0_0.out.1 k_ e_)); have n1_ := Aside0.mk (blk_kept (by (with_reducible repeat (first | refine blk_drewN ?_ _ | refine blk_drew ?_ | refine blk_alloc ?_ _)); exact BK144.out) hkp (fun hs_ => (fun e_ => (Kd.R_ne HO0_0.out BK144.out (by decide)) e_) hs_)); have n2_ := Aside0.mk (Kept.then_ (S := (fun k_ => P0_0_ k_)) (by repeat (first | (with_reducible first | exact HK.out | apply Kept.alloc | apply Kept.drewN | apply Kept.drew | refine Kept.setCell ?_ (.inr GW144.out) _) | exact HK.out)) hkp (fun k_ hs_ => (fun e_ => (HO0_0.out.1 k_ e_.symm)) hs_)); have n3_ := Aside0.mk (hb); clear HO0_0; clear BK144; clear HK; clear HB; have HO0_0 := n0_; have BK144 := n1_; have HK := n2_; have HB := n3_; clear n0_ n1_ n2_ n3_; (try clear hb); (try clear hkp); (try clear hy0)))
  go_ret
  exact ⟨by first | rfl | (simp [errW_none, errW_some] <;> rfl) | (simp [*, errW_none, errW_some] <;> rfl), by (with_reducible repeat (first | apply Kd.R_alloc | apply Kd.R_drewN | apply Kd.R_drew)); exact HO0_0.out, by repeat (first | (with_reducible first | exact HB.out | apply below_alloc | apply pw_below_drewN | apply below_drew1 | refine below_set ?_ GE144.out) | exact HB.out), by repeat (first | (with_reducible first | exact HK.out | apply Kept.alloc | apply Kept.drewN | apply Kept.drew | refine Kept.setCell ?_ (.inr GW144.out) _) | exact HK.out)⟩

end Go.Proofs.Ytmjfoickgcapmaa.GFnExactUnpack
