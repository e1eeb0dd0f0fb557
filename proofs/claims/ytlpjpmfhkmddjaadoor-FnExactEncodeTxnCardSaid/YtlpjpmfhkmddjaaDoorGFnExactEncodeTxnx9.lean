/- Written by give.py, a program of this session, that runs the kit's print and lays contracts proved by hand beside it. -/
import Derived.Test.YtlpjpmfhkmddjaaDoorGFnExactEncodeTxnx0
import Derived.Test.YtlpjpmfhkmddjaaDoorGFnExactEncodeTxnx1
import Derived.Test.YtlpjpmfhkmddjaaDoorGFnExactEncodeTxnx8
namespace Go.Proofs.YtlpjpmfhkmddjaaDoor.GFnExactEncodeTxn
open Go.RowKit Go.Proofs.YtlpjpmfhkmddjaaDoorW.PrintWords Go.Proofs.YtlpjpmfhkmddjaaDoorW.PrintLast Go.Proofs.YtlpjpmfhkmddjaaDoorW.PrintMore
attribute [local go_sem] max2_int min2_int max_two min_two max_three min_three max_four min_four Go.Proofs.YtlpjpmfhkmddjaaDoorH.str_leq Go.Proofs.YtlpjpmfhkmddjaaDoorH.str_geq Go.Proofs.YtlpjpmfhkmddjaaDoorH.str_gtr   -- for this text's walks alone
set_option linter.unusedVariables false
set_option linter.unusedSimpArgs false

attribute [local go_sem high] eqA64
/-! ### spec_ValidTxn: function 16 -/
mutual
def spec_ValidTxn.j0 : Nat → Bool → Int → List (S66) → Option (Bool)
  | 0, _, _, _ => none
  | k + 1, x18, x180000, x180001 => if x18 = true then (some false) else (spec_ValidTxn.l0 k 0 x180000 x180001)
def spec_ValidTxn.l0 : Nat → Int → Int → List (S66) → Option (Bool)
  | 0, _, _, _ => none
  | k + 1, x3, x180000, x180001 => if x3 < (x180001.length : Int) then (if 0 ≤ x3 then ((spec_l3ValidNode.f k ((rd_T66 x180001 x3).f1.f0) ((rd_T66 x180001 x3).f1.f1) ((rd_T66 x180001 x3).f1.f2) ((rd_T66 x180001 x3).f1.f3) ((rd_T66 x180001 x3).f1.f4) ((rd_T66 x180001 x3).f1.f5) ((rd_T66 x180001 x3).f1.f6)).bind fun t182 => (if t182 = true then (if x3 > 0 then (if 0 ≤ (wrap64 (x3 - 1)) then (if (wrap64 (x3 - 1)) < (x180001.length : Int) then (spec_ValidTxn.j2 k x3 (!(Op.bytesLess (((rd_T66 x180001 (wrap64 (x3 - 1))).f1.f0).toList) (((rd_T66 x180001 x3).f1.f0).toList))) x180000 x180001 ((rd_T66 x180001 x3).f0) ((rd_T66 x180001 x3).f1.f0) ((rd_T66 x180001 x3).f1.f1) ((rd_T66 x180001 x3).f1.f2) ((rd_T66 x180001 x3).f1.f3) ((rd_T66 x180001 x3).f1.f4) ((rd_T66 x180001 x3).f1.f5) ((rd_T66 x180001 x3).f1.f6)) else (none)) else (none)) else (spec_ValidTxn.j2 k x3 false x180000 x180001 ((rd_T66 x180001 x3).f0) ((rd_T66 x180001 x3).f1.f0) ((rd_T66 x180001 x3).f1.f1) ((rd_T66 x180001 x3).f1.f2) ((rd_T66 x180001 x3).f1.f3) ((rd_T66 x180001 x3).f1.f4) ((rd_T66 x180001 x3).f1.f5) ((rd_T66 x180001 x3).f1.f6))) else (spec_ValidTxn.j2 k x3 true x180000 x180001 ((rd_T66 x180001 x3).f0) ((rd_T66 x180001 x3).f1.f0) ((rd_T66 x180001 x3).f1.f1) ((rd_T66 x180001 x3).f1.f2) ((rd_T66 x180001 x3).f1.f3) ((rd_T66 x180001 x3).f1.f4) ((rd_T66 x180001 x3).f1.f5) ((rd_T66 x180001 x3).f1.f6)))) else (none)) else (some true)
def spec_ValidTxn.j2 : Nat → Int → Bool → Int → List (S66) → Bool → ByteArray → ByteArray → Int → Int → Int → Int → Int → Option (Bool)
  | 0, _, _, _, _, _, _, _, _, _, _, _, _ => none
  | k + 1, x3, x52, x180000, x180001, x182000, x182001, x182002, x182003, x182004, x182005, x182006, x182007 => if x52 = true then (some false) else (if x182000 = true then (if (!(x182002.toList == ([] : List UInt8)) || (!(x182003 == 0) || (!(x182004 == 0) || (!(x182005 == 0) || (!(x182006 == 0) || (!(x182007 == 0))))))) = true then (some false) else (spec_ValidTxn.l0 k (wrap64 (x3 + 1)) x180000 x180001)) else (spec_ValidTxn.l0 k (wrap64 (x3 + 1)) x180000 x180001))
end
def spec_ValidTxn.f (k : Nat) (a0_0 : Int) (l0_1 : List (S66)) : Option (Bool) := if a0_0 < 1 then (spec_ValidTxn.j0 k true a0_0 l0_1) else (if a0_0 > 2147483647 then (spec_ValidTxn.j0 k true a0_0 l0_1) else (spec_ValidTxn.j0 k (decide ((l0_1.length : Int) > 1000)) a0_0 l0_1))
theorem spec_ValidTxn.mono_l : ∀ k, (∀ y0 y1 y2, LeO (spec_ValidTxn.j0 k y0 y1 y2) (spec_ValidTxn.j0 (k + 1) y0 y1 y2)) ∧ (∀ y0 y1 y2, LeO (spec_ValidTxn.l0 k y0 y1 y2) (spec_ValidTxn.l0 (k + 1) y0 y1 y2)) ∧ (∀ y0 y1 y2 y3 y4 y5 y6 y7 y8 y9 y10 y11, LeO (spec_ValidTxn.j2 k y0 y1 y2 y3 y4 y5 y6 y7 y8 y9 y10 y11) (spec_ValidTxn.j2 (k + 1) y0 y1 y2 y3 y4 y5 y6 y7 y8 y9 y10 y11))
  | 0 => ⟨fun _ _ _ r h => by simp [spec_ValidTxn.j0] at h, fun _ _ _ r h => by simp [spec_ValidTxn.l0] at h, fun _ _ _ _ _ _ _ _ _ _ _ _ r h => by simp [spec_ValidTxn.j2] at h⟩
  | k + 1 => by
    obtain ⟨ih0, ih1, ih2⟩ := spec_ValidTxn.mono_l k
    refine ⟨?_, ?_, ?_⟩
    · intro y0 y1 y2
      unfold spec_ValidTxn.j0
      repeat' first
      | (with_reducible exact ih0 _ _ _)
      | (with_reducible exact ih1 _ _ _)
      | (with_reducible exact ih2 _ _ _ _ _ _ _ _ _ _ _ _)
      | (with_reducible exact spec_l3ValidNode.mono _ _ _ _ _ _ _ _)
      | (with_reducible exact LeO.refl _)
      | (with_reducible exact LeO.none _)
      | (with_reducible refine LeO.ite ?_ ?_)
      | (with_reducible refine LeO.bind ?_ (fun _ => ?_))
      | exact ih0 _ _ _
      | exact ih1 _ _ _
      | exact ih2 _ _ _ _ _ _ _ _ _ _ _ _
      | exact spec_l3ValidNode.mono _ _ _ _ _ _ _ _
      | exact LeO.none _
      | refine LeO.ite ?_ ?_
      | refine LeO.bind ?_ (fun _ => ?_)
    · intro y0 y1 y2
      unfold spec_ValidTxn.l0
      repeat' first
      | (with_reducible exact ih0 _ _ _)
      | (with_reducible exact ih1 _ _ _)
      | (with_reducible exact ih2 _ _ _ _ _ _ _ _ _ _ _ _)
      | (with_reducible exact spec_l3ValidNode.mono _ _ _ _ _ _ _ _)
      | (with_reducible exact LeO.refl _)
      | (with_reducible exact LeO.none _)
      | (with_reducible refine LeO.ite ?_ ?_)
      | (with_reducible refine LeO.bind ?_ (fun _ => ?_))
      | exact ih0 _ _ _
      | exact ih1 _ _ _
      | exact ih2 _ _ _ _ _ _ _ _ _ _ _ _
      | exact spec_l3ValidNode.mono _ _ _ _ _ _ _ _
      | exact LeO.none _
      | refine LeO.ite ?_ ?_
      | refine LeO.bind ?_ (fun _ => ?_)
    · intro y0 y1 y2 y3 y4 y5 y6 y7 y8 y9 y10 y11
      unfold spec_ValidTxn.j2
      repeat' first
      | (with_reducible exact ih0 _ _ _)
      | (with_reducible exact ih1 _ _ _)
      | (with_reducible exact ih2 _ _ _ _ _ _ _ _ _ _ _ _)
      | (with_reducible exact spec_l3ValidNode.mono _ _ _ _ _ _ _ _)
      | (with_reducible exact LeO.refl _)
      | (with_reducible exact LeO.none _)
      | (with_reducible refine LeO.ite ?_ ?_)
      | (with_reducible refine LeO.bind ?_ (fun _ => ?_))
      | exact ih0 _ _ _
      | exact ih1 _ _ _
      | exact ih2 _ _ _ _ _ _ _ _ _ _ _ _
      | exact spec_l3ValidNode.mono _ _ _ _ _ _ _ _
      | exact LeO.none _
      | refine LeO.ite ?_ ?_
      | refine LeO.bind ?_ (fun _ => ?_)
theorem spec_ValidTxn.mono : ∀ a0 a1 k, LeO (spec_ValidTxn.f k a0 a1) (spec_ValidTxn.f (k + 1) a0 a1) := by
  intro a0 a1 k
  obtain ⟨ih0, ih1, ih2⟩ := spec_ValidTxn.mono_l k
  unfold spec_ValidTxn.f
  repeat' first
      | (with_reducible exact ih0 _ _ _)
      | (with_reducible exact ih1 _ _ _)
      | (with_reducible exact ih2 _ _ _ _ _ _ _ _ _ _ _ _)
      | (with_reducible exact spec_l3ValidNode.mono _ _ _ _ _ _ _ _)
      | (with_reducible exact LeO.refl _)
      | (with_reducible exact LeO.none _)
      | (with_reducible refine LeO.ite ?_ ?_)
      | (with_reducible refine LeO.bind ?_ (fun _ => ?_))
      | exact ih0 _ _ _
      | exact ih1 _ _ _
      | exact ih2 _ _ _ _ _ _ _ _ _ _ _ _
      | exact spec_l3ValidNode.mono _ _ _ _ _ _ _ _
      | exact LeO.none _
      | refine LeO.ite ?_ ?_
      | refine LeO.bind ?_ (fun _ => ?_)
def spec_ValidTxn.T7 : Bool × List (List Nat × List Nat) := (true, [([], []), ([0], [0]), ([1], [1]), ([2], [2]), ([3, 2], [3]), ([4], [4]), ([5, 4], [4, 5]), ([6, 4, 4], [4, 6]), ([7], [7]), ([8, 7], [7, 8]), ([9, 7], [7, 9]), ([7], [7]), ([11, 7], [7, 11]), ([7], [7]), ([13, 7], [7, 13]), ([12, 14, 7], [7, 12, 14]), ([15, 7], [7, 15]), ([16, 7], [7, 16]), ([17, 7], [7, 17]), ([10, 18, 7], [7, 10, 18]), ([7, 19, 4], [4, 7, 19]), ([4, 20], [4, 20])])
def spec_ValidTxn.B7 : List Nat := [0, 1, 3, 7, 15, 31, 63, 127, 255, 511, 1023, 255, 2303, 255, 8447, 30975, 63743, 129279, 260351, 524287, 1048575, 2097151]
theorem spec_ValidTxn.tab7 : rtab .any (opsOf Tryd.f16 7) = spec_ValidTxn.T7 := by kernel_rfl
theorem spec_ValidTxn.bits7 : waitsOk spec_ValidTxn.T7.2 spec_ValidTxn.B7 = true := by kernel_rfl
set_option maxHeartbeats 8000000 in
set_option maxRecDepth 100000 in
theorem spec_ValidTxn.calls (k : Nat) (a0_0 : Int) (A0_1 : Option Addr) (c0_1 : Nat) (l0_1 : List (S66)) (r : Bool) (w : World) (hr0_1 : Kd.C k66 w A0_1 l0_1.length l0_1) (hc0_1 : l0_1.length ≤ c0_1) (h : spec_ValidTxn.f k a0_0 l0_1 = some r) :
    Calls Tryd.prog 16 #[.agg #[.int .i64 a0_0, .slice A0_1 l0_1.length c0_1]] w fun e w' => e = .returned (.bool r) ∧ Below w.heap.size w w' := by
  have hu41 := Tryd.underlying41
  have hu66 := Tryd.underlying66
  have hu64 := Tryd.underlying64
  have HR0_1 := Aside0.mk hr0_1
  have HC0_1 := Aside0.mk hc0_1
  clear hr0_1 hc0_1
  have HB := Aside0.mk (Below.refl w.heap.size w)
  have H : (if a0_0 < 1 then (spec_ValidTxn.j0 k true a0_0 l0_1) else (if a0_0 > 2147483647 then (spec_ValidTxn.j0 k true a0_0 l0_1) else (spec_ValidTxn.j0 k (decide ((l0_1.length : Int) > 1000)) a0_0 l0_1))) = some r := h
  clear h
  have HC2 := Aside0.mk H
  clear H
  go_enter Tryd.func16, Tryd.ntmps16
  go_upto_region 1 with (first | ((with_reducible refine gate_dst (N := 1) rfl ?_); (try (refine gate_guard (by rfl) ?_; dsimp only)); refine box_event ?hg (N := 1) ?hd (cs := #[.int .i64 a0_0, .slice A0_1 l0_1.length c0_1]) (t := 41) ?hr ?_; (case hd => rfl); (case hg => rfl); (case hr => first | (go_simp; done) | (go_simp; rfl)); intro gb179 hg w3 hbox hb; have n0_ := Aside0.mk (below_step (by repeat (first | (with_reducible first | exact HB.out | apply below_alloc | apply pw_below_drewN | apply below_drew1) | exact HB.out)) hb); have n1_ := Aside0.mk (hbox); have n2_ := Aside0.mk ((by rw [hg]; exact (below_size (by repeat (first | (with_reducible first | exact HB.out | apply below_alloc | apply pw_below_drewN | apply below_drew1) | exact HB.out))) : w.heap.size ≤ gb179)); have n3_ := Aside0.mk ((by rw [hg]; exact (below_size (by repeat (first | (with_reducible first | exact HB.out | apply below_alloc | apply pw_below_drewN | apply below_drew1) | exact HB.out))) : w.heap.size ≤ gb179)); clear HB; have HB := n0_; have BK179 := n1_; have GW179 := n2_; have GE179 := n3_; clear n0_ n1_ n2_ n3_; clear hb hbox hg))
  (try simp only [Act.put, List.setIfInBounds_toArray, List.set_cons_zero, List.set_cons_succ])
  go_cut [18] (fun v18 wc => ∃ (kq : Nat) (x18_1 : Bool), v18 = .bool x18_1 ∧ Aside0 (spec_ValidTxn.j0 kq x18_1 a0_0 l0_1 = some r) ∧ Aside0 (kq ≤ k) ∧ Aside0 (wc.heap[gb179]? = some (.cells #[.int .i64 a0_0, (.slice A0_1 l0_1.length c0_1)] 41 (0, 0))) ∧ Aside0 (Below w.heap.size w wc))
  case first =>
    have H := HC2.out
    clear HC2
    by_cases c4 : a0_0 < 1
    · rw [if_pos c4] at H
      have c4b0 : decide (a0_0 < 1) = true := decide_eq_true c4
      clear c4
      (first | rw [c4b0] | (simp only [i64_w, i32_w]; rw [c4b0]) | skip)
      have H' := Aside0.mk H
      clear H
      have hcz5_0 : w3.cell? ⟨gb179, 0, none⟩ = some (.int .i64 a0_0) := (blk_cell BK179.out 0).trans rfl
      have hcz5_1 : w3.cell? ⟨gb179, 1, none⟩ = some (.slice A0_1 l0_1.length c0_1) := (blk_cell BK179.out 1).trans rfl
      have hfz5_0 := blk_frozen BK179.out 0
      have hfz5_1 := blk_frozen BK179.out 1
      go_wp2
      go_meet
      case rel => exact ⟨_, (true), (by first | rfl | (simp; done) | (simp [*]; done)), H', ⟨by first | omega | exact Nat.le_refl _⟩, ⟨by (with_reducible repeat (first | refine blk_drewN ?_ _ | refine blk_drew ?_ | refine blk_alloc ?_ _)); exact BK179.out⟩, ⟨by repeat (first | (with_reducible first | exact HB.out | apply below_alloc | apply pw_below_drewN | apply below_drew1 | refine below_set ?_ GE179.out) | exact HB.out)⟩⟩
    · rw [if_neg c4] at H
      have c4b0 : decide (a0_0 < 1) = false := decide_eq_false c4
      clear c4
      (first | rw [c4b0] | (simp only [i64_w, i32_w]; rw [c4b0]) | skip)
      by_cases c6 : a0_0 > 2147483647
      · rw [if_pos c6] at H
        have c6b0 : decide (2147483647 < a0_0) = true := decide_eq_true c6
        clear c6
        have H' := Aside0.mk H
        clear H
        have hcz7_0 : w3.cell? ⟨gb179, 0, none⟩ = some (.int .i64 a0_0) := (blk_cell BK179.out 0).trans rfl
        have hcz7_1 : w3.cell? ⟨gb179, 1, none⟩ = some (.slice A0_1 l0_1.length c0_1) := (blk_cell BK179.out 1).trans rfl
        have hfz7_0 := blk_frozen BK179.out 0
        have hfz7_1 := blk_frozen BK179.out 1
        go_wp2
        go_meet
        case rel => exact ⟨_, (true), (by first | rfl | (simp; done) | (simp [*]; done)), H', ⟨by first | omega | exact Nat.le_refl _⟩, ⟨by (with_reducible repeat (first | refine blk_drewN ?_ _ | refine blk_drew ?_ | refine blk_alloc ?_ _)); exact BK179.out⟩, ⟨by repeat (first | (with_reducible first | exact HB.out | apply below_alloc | apply pw_below_drewN | apply below_drew1 | refine below_set ?_ GE179.out) | exact HB.out)⟩⟩
      · rw [if_neg c6] at H
        have c6b0 : decide (2147483647 < a0_0) = false := decide_eq_false c6
        clear c6
        have H' := Aside0.mk H
        clear H
        have hcz8_0 : w3.cell? ⟨gb179, 0, none⟩ = some (.int .i64 a0_0) := (blk_cell BK179.out 0).trans rfl
        have hcz8_1 : w3.cell? ⟨gb179, 1, none⟩ = some (.slice A0_1 l0_1.length c0_1) := (blk_cell BK179.out 1).trans rfl
        have hfz8_0 := blk_frozen BK179.out 0
        have hfz8_1 := blk_frozen BK179.out 1
        go_wp2
        go_meet
        case rel => exact ⟨_, (decide ((l0_1.length : Int) > 1000)), (by first | rfl | (simp; done) | (simp [*]; done)), H', ⟨by first | omega | exact Nat.le_refl _⟩, ⟨by (with_reducible repeat (first | refine blk_drewN ?_ _ | refine blk_drew ?_ | refine blk_alloc ?_ _)); exact BK179.out⟩, ⟨by repeat (first | (with_reducible first | exact HB.out | apply below_alloc | apply pw_below_drewN | apply below_drew1 | refine below_set ?_ GE179.out) | exact HB.out)⟩⟩
  case rest =>
    clear HC2
    try clear c1
    try clear p2
    try clear c4
    try clear c4b0
    try clear c6
    try clear c6b0
    try clear hcz5_0
    try clear hcz5_1
    try clear hcz7_0
    try clear hcz7_1
    try clear hcz8_0
    try clear hcz8_1
    try clear hfz5_0
    try clear hfz5_1
    try clear hfz7_0
    try clear hfz7_1
    try clear hfz8_0
    try clear hfz8_1
    obtain ⟨kq, x18_1, rfl, HA, HJ1, BK179, HB⟩ := hcut
    cases kq with
    | zero => exact absurd HA.out (by simp [spec_ValidTxn.j0])
    | succ kj1 =>
      have H := HA.out
      clear HA
      simp only [spec_ValidTxn.j0] at H
      by_cases c9 : x18_1 = true
      · subst c9
        have H1 : (some false) = some r := by rw [if_pos rfl] at H; exact H
        clear H
        have H := H1
        clear H1
        obtain rfl := Option.some.inj H
        go_wp2
        go_ret
        exact ⟨by first | rfl | (simp [errW_none, errW_some] <;> rfl) | (simp [*, errW_none, errW_some] <;> rfl), by repeat (first | (with_reducible first | exact HB.out | apply below_alloc | apply pw_below_drewN | apply below_drew1 | refine below_set ?_ GE179.out) | exact HB.out)⟩
      · replace c9 := Bool.eq_false_iff.mpr c9
        subst c9
        have H1 : (spec_ValidTxn.l0 kj1 0 a0_0 l0_1) = some r := by rw [if_neg (show ¬ (false = true) by decide)] at H; exact H
        clear H
        have H := H1
        clear H1
        have H' := Aside0.mk H
        clear H
        go_wp2
        go_loopg [3] kj1 (fun kq v3 w' => ∃ (x3_2 : Int), v3 = .int .i64 x3_2 ∧ Aside0 (spec_ValidTxn.l0 kq x3_2 a0_0 l0_1 = some r) ∧ Aside0 (kq ≤ kj1) ∧ Aside0 (w'.heap[gb179]? = some (.cells #[.int .i64 a0_0, (.slice A0_1 l0_1.length c0_1)] 41 (0, 0))) ∧ Aside0 (Below w.heap.size w w'))
        case atStart => exact ⟨(0), (by first | rfl | (simp; done) | (simp [*]; done)), H', ⟨Nat.le_refl _⟩, ⟨by (with_reducible repeat (first | refine blk_drewN ?_ _ | refine blk_drew ?_ | refine blk_alloc ?_ _)); exact BK179.out⟩, ⟨by repeat (first | (with_reducible first | exact HB.out | apply below_alloc | apply pw_below_drewN | apply below_drew1 | refine below_set ?_ GE179.out) | exact HB.out)⟩⟩
        case round =>
          clear H'
          try clear c1
          try clear p2
          try clear c4
          try clear c4b0
          try clear c6
          try clear c6b0
          try clear c9
          try clear hcz5_0
          try clear hcz5_1
          try clear hcz7_0
          try clear hcz7_1
          try clear hcz8_0
          try clear hcz8_1
          try clear hfz5_0
          try clear hfz5_1
          try clear hfz7_0
          try clear hfz7_1
          try clear hfz8_0
          try clear hfz8_1
          try clear p2
          obtain ⟨x3_2, rfl, HA, HK2, BK179, HB⟩ := hrel
          cases gk with
          | zero => exact absurd HA.out (by simp [spec_ValidTxn.l0])
          | succ k2 =>
            have H := HA.out
            clear HA
            simp only [spec_ValidTxn.l0] at H
            by_cases c10 : x3_2 < (l0_1.length : Int)
            · rw [if_pos c10] at H
              have c10b0 : decide (x3_2 < (l0_1.length : Int)) = true := decide_eq_true c10
              clear c10
              by_cases c11 : 0 ≤ x3_2
              · rw [if_pos c11] at H
                have c11b0 : decide (0 ≤ x3_2) = true := decide_eq_true c11
                clear c11
                have HC12 := Aside0.mk H
                clear H
                have hcz13_0 : wr.cell? ⟨gb179, 0, none⟩ = some (.int .i64 a0_0) := (blk_cell BK179.out 0).trans rfl
                have hcz13_1 : wr.cell? ⟨gb179, 1, none⟩ = some (.slice A0_1 l0_1.length c0_1) := (blk_cell BK179.out 1).trans rfl
                have hfz13_0 := blk_frozen BK179.out 0
                have hfz13_1 := blk_frozen BK179.out 1
                have p180 : 0 ≤ (x3_2 : Int) := of_decide_eq_true (by first | (with_reducible assumption) | assumption)
                have q180 : x3_2 < (l0_1.length : Int) := of_decide_eq_true (by first | (with_reducible assumption) | assumption)
                obtain ⟨ad180, e180, hx180_0, hx180_1, hx180_2, hx180_3, hx180_4, hx180_5, hx180_6, hx180_7⟩ := at_T66 HR0_1.out x3_2 p180 q180
                cases e180
                replace hx180_0 := pw_cell_below HB.out hx180_0
                replace hx180_1 := pw_cell_below HB.out hx180_1
                replace hx180_2 := pw_cell_below HB.out hx180_2
                replace hx180_3 := pw_cell_below HB.out hx180_3
                replace hx180_4 := pw_cell_below HB.out hx180_4
                replace hx180_5 := pw_cell_below HB.out hx180_5
                replace hx180_6 := pw_cell_below HB.out hx180_6
                replace hx180_7 := pw_cell_below HB.out hx180_7
                replace p180 := eq_true p180
                replace q180 := eq_true q180
                go_upto_region 7 with (first | ((with_reducible refine gate_dst (N := 4) rfl ?_); (try (refine gate_guard (by rfl) ?_; dsimp only)); refine box_event ?hg (N := 4) ?hd (cs := #[.bool false, .string (⟨#[]⟩ : ByteArray), .string (⟨#[]⟩ : ByteArray), .int .i64 0, .int .i64 0, .int .i64 0, .int .i64 0, .int .i64 0]) (t := 66) ?hr ?_; (case hd => rfl); (case hg => rfl); (case hr => first | (go_simp; done) | (go_simp; rfl)); intro gb181 hg w14 hbox hb; have n0_ := Aside0.mk (blk_below (g := gb179) (o := .cells #[.int .i64 a0_0, .slice (some ad180) l0_1.length c0_1] 41 (0, 0)) (by (with_reducible repeat (first | refine blk_drewN ?_ _ | refine blk_drew ?_ | refine blk_alloc ?_ _)); exact BK179.out) hb); have n1_ := Aside0.mk (below_step (by repeat (first | (with_reducible first | exact HB.out | apply below_alloc | apply pw_below_drewN | apply below_drew1 | refine below_set ?_ GE179.out) | exact HB.out)) hb); have n2_ := Aside0.mk (hbox); have n3_ := Aside0.mk ((by rw [hg]; exact (below_size (by repeat (first | (with_reducible first | exact HB.out | apply below_alloc | apply pw_below_drewN | apply below_drew1 | refine below_set ?_ GE179.out) | exact HB.out))) : w.heap.size ≤ gb181)); have n4_ := Aside0.mk ((by rw [hg]; exact (below_size (by repeat (first | (with_reducible first | exact HB.out | apply below_alloc | apply pw_below_drewN | apply below_drew1 | refine below_set ?_ GE179.out) | exact HB.out))) : w.heap.size ≤ gb181)); have n5_ := Aside0.mk ((by rw [hg]; exact Nat.ne_of_lt (blk_lt (g := gb179) (o := .cells #[.int .i64 a0_0, .slice (some ad180) l0_1.length c0_1] 41 (0, 0)) (by (with_reducible repeat (first | refine blk_drewN ?_ _ | refine blk_drew ?_ | refine blk_alloc ?_ _)); exact BK179.out)) : gb179 ≠ gb181)); have n6_ := Aside0.mk ((by rw [hg]; exact Nat.ne_of_gt (blk_lt (g := gb179) (o := .cells #[.int .i64 a0_0, .slice (some ad180) l0_1.length c0_1] 41 (0, 0)) (by (with_reducible repeat (first | refine blk_drewN ?_ _ | refine blk_drew ?_ | refine blk_alloc ?_ _)); exact BK179.out)) : gb181 ≠ gb179)); clear BK179; clear HB; have BK179 := n0_; have HB := n1_; have BK181 := n2_; have GW181 := n3_; have GE181 := n4_; have NB179_181 := n5_; have NB181_179 := n6_; clear n0_ n1_ n2_ n3_ n4_ n5_ n6_; clear hb hbox hg; have hnb15 := NB181_179.out; have hnc15 := NB179_181.out; have hcz16_0 : w14.cell? ⟨gb181, 0, none⟩ = some (.bool false) := (blk_cell BK181.out 0).trans rfl; have hcz16_1 : w14.cell? ⟨gb181, 1, none⟩ = some (.string (⟨#[]⟩ : ByteArray)) := (blk_cell BK181.out 1).trans rfl; have hcz16_2 : w14.cell? ⟨gb181, 2, none⟩ = some (.string (⟨#[]⟩ : ByteArray)) := (blk_cell BK181.out 2).trans rfl; have hcz16_3 : w14.cell? ⟨gb181, 3, none⟩ = some (.int .i64 0) := (blk_cell BK181.out 3).trans rfl; have hcz16_4 : w14.cell? ⟨gb181, 4, none⟩ = some (.int .i64 0) := (blk_cell BK181.out 4).trans rfl; have hcz16_5 : w14.cell? ⟨gb181, 5, none⟩ = some (.int .i64 0) := (blk_cell BK181.out 5).trans rfl; have hcz16_6 : w14.cell? ⟨gb181, 6, none⟩ = some (.int .i64 0) := (blk_cell BK181.out 6).trans rfl; have hcz16_7 : w14.cell? ⟨gb181, 7, none⟩ = some (.int .i64 0) := (blk_cell BK181.out 7).trans rfl; have hfz16_0 := blk_frozen BK181.out 0; have hfz16_1 := blk_frozen BK181.out 1; have hfz16_2 := blk_frozen BK181.out 2; have hfz16_3 := blk_frozen BK181.out 3; have hfz16_4 := blk_frozen BK181.out 4; have hfz16_5 := blk_frozen BK181.out 5; have hfz16_6 := blk_frozen BK181.out 6; have hfz16_7 := blk_frozen BK181.out 7))
                (try simp only [Act.put, List.setIfInBounds_toArray, List.set_cons_zero, List.set_cons_succ])
                go_cut [52] (fun v52 wc => ∃ (kq : Nat) (x52_11 : Bool), v52 = .bool x52_11 ∧ Aside0 (spec_ValidTxn.j2 kq x3_2 x52_11 a0_0 l0_1 ((rd_T66 l0_1 x3_2).f0) ((rd_T66 l0_1 x3_2).f1.f0) ((rd_T66 l0_1 x3_2).f1.f1) ((rd_T66 l0_1 x3_2).f1.f2) ((rd_T66 l0_1 x3_2).f1.f3) ((rd_T66 l0_1 x3_2).f1.f4) ((rd_T66 l0_1 x3_2).f1.f5) ((rd_T66 l0_1 x3_2).f1.f6) = some r) ∧ Aside0 (kq ≤ k2) ∧ Aside0 (wc.heap[gb179]? = some (.cells #[.int .i64 a0_0, (.slice (some ad180) l0_1.length c0_1)] 41 (0, 0))) ∧ Aside0 (wc.heap[gb181]? = some (.cells #[.bool ((rd_T66 l0_1 x3_2).f0), .string ((rd_T66 l0_1 x3_2).f1.f0), .string ((rd_T66 l0_1 x3_2).f1.f1), .int .i64 ((rd_T66 l0_1 x3_2).f1.f2), .int .i64 ((rd_T66 l0_1 x3_2).f1.f3), .int .i64 ((rd_T66 l0_1 x3_2).f1.f4), .int .i64 ((rd_T66 l0_1 x3_2).f1.f5), .int .i64 ((rd_T66 l0_1 x3_2).f1.f6)] 66 (0, 0))) ∧ Aside0 (Below w.heap.size w wc))
                case first =>
                  have H := HC12.out
                  clear HC12
                  replace H := Option.bind_eq_some_iff.mp H
                  obtain ⟨t182, A170, H⟩ := H
                  replace H : (if t182 = true then (if x3_2 > 0 then (if 0 ≤ (wrap64 (x3_2 - 1)) then (if (wrap64 (x3_2 - 1)) < (l0_1.length : Int) then (spec_ValidTxn.j2 k2 x3_2 (!(Op.bytesLess (((rd_T66 l0_1 (wrap64 (x3_2 - 1))).f1.f0).toList) (((rd_T66 l0_1 x3_2).f1.f0).toList))) a0_0 l0_1 ((rd_T66 l0_1 x3_2).f0) ((rd_T66 l0_1 x3_2).f1.f0) ((rd_T66 l0_1 x3_2).f1.f1) ((rd_T66 l0_1 x3_2).f1.f2) ((rd_T66 l0_1 x3_2).f1.f3) ((rd_T66 l0_1 x3_2).f1.f4) ((rd_T66 l0_1 x3_2).f1.f5) ((rd_T66 l0_1 x3_2).f1.f6)) else (none)) else (none)) else (spec_ValidTxn.j2 k2 x3_2 false a0_0 l0_1 ((rd_T66 l0_1 x3_2).f0) ((rd_T66 l0_1 x3_2).f1.f0) ((rd_T66 l0_1 x3_2).f1.f1) ((rd_T66 l0_1 x3_2).f1.f2) ((rd_T66 l0_1 x3_2).f1.f3) ((rd_T66 l0_1 x3_2).f1.f4) ((rd_T66 l0_1 x3_2).f1.f5) ((rd_T66 l0_1 x3_2).f1.f6))) else (spec_ValidTxn.j2 k2 x3_2 true a0_0 l0_1 ((rd_T66 l0_1 x3_2).f0) ((rd_T66 l0_1 x3_2).f1.f0) ((rd_T66 l0_1 x3_2).f1.f1) ((rd_T66 l0_1 x3_2).f1.f2) ((rd_T66 l0_1 x3_2).f1.f3) ((rd_T66 l0_1 x3_2).f1.f4) ((rd_T66 l0_1 x3_2).f1.f5) ((rd_T66 l0_1 x3_2).f1.f6))) = some r := H
                  have A17 := Aside0.mk A170
                  clear A170
                  by_cases c18 : t182 = true
                  · subst c18
                    have H1 : (if x3_2 > 0 then (if 0 ≤ (wrap64 (x3_2 - 1)) then (if (wrap64 (x3_2 - 1)) < (l0_1.length : Int) then (spec_ValidTxn.j2 k2 x3_2 (!(Op.bytesLess (((rd_T66 l0_1 (wrap64 (x3_2 - 1))).f1.f0).toList) (((rd_T66 l0_1 x3_2).f1.f0).toList))) a0_0 l0_1 ((rd_T66 l0_1 x3_2).f0) ((rd_T66 l0_1 x3_2).f1.f0) ((rd_T66 l0_1 x3_2).f1.f1) ((rd_T66 l0_1 x3_2).f1.f2) ((rd_T66 l0_1 x3_2).f1.f3) ((rd_T66 l0_1 x3_2).f1.f4) ((rd_T66 l0_1 x3_2).f1.f5) ((rd_T66 l0_1 x3_2).f1.f6)) else (none)) else (none)) else (spec_ValidTxn.j2 k2 x3_2 false a0_0 l0_1 ((rd_T66 l0_1 x3_2).f0) ((rd_T66 l0_1 x3_2).f1.f0) ((rd_T66 l0_1 x3_2).f1.f1) ((rd_T66 l0_1 x3_2).f1.f2) ((rd_T66 l0_1 x3_2).f1.f3) ((rd_T66 l0_1 x3_2).f1.f4) ((rd_T66 l0_1 x3_2).f1.f5) ((rd_T66 l0_1 x3_2).f1.f6))) = some r := by rw [if_pos rfl] at H; exact H
                    clear H
                    have H := H1
                    clear H1
                    by_cases c19 : x3_2 > 0
                    · rw [if_pos c19] at H
                      have c19b0 : decide (0 < x3_2) = true := decide_eq_true c19
                      clear c19
                      (first | rw [c19b0] | (simp only [i64_w, i32_w]; rw [c19b0]) | skip)
                      obtain ⟨ji20, hji20⟩ : ∃ j_ : Int, (wrap64 (x3_2 - 1)) = j_ := ⟨_, rfl⟩
                      replace H : (if 0 ≤ (ji20) then (if (ji20) < (l0_1.length : Int) then (spec_ValidTxn.j2 k2 x3_2 (!(Op.bytesLess (((rd_T66 l0_1 (ji20)).f1.f0).toList) (((rd_T66 l0_1 x3_2).f1.f0).toList))) a0_0 l0_1 ((rd_T66 l0_1 x3_2).f0) ((rd_T66 l0_1 x3_2).f1.f0) ((rd_T66 l0_1 x3_2).f1.f1) ((rd_T66 l0_1 x3_2).f1.f2) ((rd_T66 l0_1 x3_2).f1.f3) ((rd_T66 l0_1 x3_2).f1.f4) ((rd_T66 l0_1 x3_2).f1.f5) ((rd_T66 l0_1 x3_2).f1.f6)) else (none)) else (none)) = some r := by first | (rw [hji20] at H; exact H) | (simp only [hji20] at H ⊢; exact H)
                      (try rw [hji20] at A17)
                      have hji20w : (IntKind.i64.wrap (x3_2 - 1)) = ji20 := (i64_w _).trans hji20
                      by_cases c21 : 0 ≤ (ji20)
                      · rw [if_pos c21] at H
                        have c21b0 : decide (0 ≤ (ji20)) = true := decide_eq_true c21
                        clear c21
                        by_cases c22 : (ji20) < (l0_1.length : Int)
                        · rw [if_pos c22] at H
                          have c22b0 : decide ((ji20) < (l0_1.length : Int)) = true := decide_eq_true c22
                          clear c22
                          have H' := Aside0.mk H
                          clear H
                          try go_wp2
                          have n0_ : Aside0 (((((((((w14.setCell ⟨gb181, 0, none⟩ (.bool ((rd_T66 l0_1 x3_2).f0))).setCell ⟨gb181, 1, none⟩ (.string ((rd_T66 l0_1 x3_2).f1.f0))).setCell ⟨gb181, 2, none⟩ (.string ((rd_T66 l0_1 x3_2).f1.f1))).setCell ⟨gb181, 3, none⟩ (.int .i64 ((rd_T66 l0_1 x3_2).f1.f2))).setCell ⟨gb181, 4, none⟩ (.int .i64 ((rd_T66 l0_1 x3_2).f1.f3))).setCell ⟨gb181, 5, none⟩ (.int .i64 ((rd_T66 l0_1 x3_2).f1.f4))).setCell ⟨gb181, 6, none⟩ (.int .i64 ((rd_T66 l0_1 x3_2).f1.f5))).setCell ⟨gb181, 7, none⟩ (.int .i64 ((rd_T66 l0_1 x3_2).f1.f6))).heap[gb179]? = some (.cells #[.int .i64 a0_0, .slice (some ad180) l0_1.length c0_1] 41 (0, 0))) := ⟨by (with_reducible repeat (first | refine blk_drewN ?_ _ | refine blk_drew ?_ | refine blk_alloc ?_ _)); refine blk_far ?_ NB179_181.out _; (with_reducible repeat (first | refine blk_drewN ?_ _ | refine blk_drew ?_ | refine blk_alloc ?_ _)); refine blk_far ?_ NB179_181.out _; (with_reducible repeat (first | refine blk_drewN ?_ _ | refine blk_drew ?_ | refine blk_alloc ?_ _)); refine blk_far ?_ NB179_181.out _; (with_reducible repeat (first | refine blk_drewN ?_ _ | refine blk_drew ?_ | refine blk_alloc ?_ _)); refine blk_far ?_ NB179_181.out _; (with_reducible repeat (first | refine blk_drewN ?_ _ | refine blk_drew ?_ | refine blk_alloc ?_ _)); refine blk_far ?_ NB179_181.out _; (with_reducible repeat (first | refine blk_drewN ?_ _ | refine blk_drew ?_ | refine blk_alloc ?_ _)); refine blk_far ?_ NB179_181.out _; (with_reducible repeat (first | refine blk_drewN ?_ _ | refine blk_drew ?_ | refine blk_alloc ?_ _)); refine blk_far ?_ NB179_181.out _; (with_reducible repeat (first | refine blk_drewN ?_ _ | refine blk_drew ?_ | refine blk_alloc ?_ _)); refine blk_far ?_ NB179_181.out _; (with_reducible repeat (first | refine blk_drewN ?_ _ | refine blk_drew ?_ | refine blk_alloc ?_ _)); exact BK179.out⟩
                          have n1_ : Aside0 (((((((((w14.setCell ⟨gb181, 0, none⟩ (.bool ((rd_T66 l0_1 x3_2).f0))).setCell ⟨gb181, 1, none⟩ (.string ((rd_T66 l0_1 x3_2).f1.f0))).setCell ⟨gb181, 2, none⟩ (.string ((rd_T66 l0_1 x3_2).f1.f1))).setCell ⟨gb181, 3, none⟩ (.int .i64 ((rd_T66 l0_1 x3_2).f1.f2))).setCell ⟨gb181, 4, none⟩ (.int .i64 ((rd_T66 l0_1 x3_2).f1.f3))).setCell ⟨gb181, 5, none⟩ (.int .i64 ((rd_T66 l0_1 x3_2).f1.f4))).setCell ⟨gb181, 6, none⟩ (.int .i64 ((rd_T66 l0_1 x3_2).f1.f5))).setCell ⟨gb181, 7, none⟩ (.int .i64 ((rd_T66 l0_1 x3_2).f1.f6))).heap[gb181]? = some (.cells #[.bool ((rd_T66 l0_1 x3_2).f0), .string ((rd_T66 l0_1 x3_2).f1.f0), .string ((rd_T66 l0_1 x3_2).f1.f1), .int .i64 ((rd_T66 l0_1 x3_2).f1.f2), .int .i64 ((rd_T66 l0_1 x3_2).f1.f3), .int .i64 ((rd_T66 l0_1 x3_2).f1.f4), .int .i64 ((rd_T66 l0_1 x3_2).f1.f5), .int .i64 ((rd_T66 l0_1 x3_2).f1.f6)] 66 (0, 0))) := ⟨by (with_reducible repeat (first | refine blk_drewN ?_ _ | refine blk_drew ?_ | refine blk_alloc ?_ _)); refine blk_put (cs := #[.bool ((rd_T66 l0_1 x3_2).f0), .string ((rd_T66 l0_1 x3_2).f1.f0), .string ((rd_T66 l0_1 x3_2).f1.f1), .int .i64 ((rd_T66 l0_1 x3_2).f1.f2), .int .i64 ((rd_T66 l0_1 x3_2).f1.f3), .int .i64 ((rd_T66 l0_1 x3_2).f1.f4), .int .i64 ((rd_T66 l0_1 x3_2).f1.f5), .int .i64 0]) ?_ 7 _ rfl; (with_reducible repeat (first | refine blk_drewN ?_ _ | refine blk_drew ?_ | refine blk_alloc ?_ _)); refine blk_put (cs := #[.bool ((rd_T66 l0_1 x3_2).f0), .string ((rd_T66 l0_1 x3_2).f1.f0), .string ((rd_T66 l0_1 x3_2).f1.f1), .int .i64 ((rd_T66 l0_1 x3_2).f1.f2), .int .i64 ((rd_T66 l0_1 x3_2).f1.f3), .int .i64 ((rd_T66 l0_1 x3_2).f1.f4), .int .i64 0, .int .i64 0]) ?_ 6 _ rfl; (with_reducible repeat (first | refine blk_drewN ?_ _ | refine blk_drew ?_ | refine blk_alloc ?_ _)); refine blk_put (cs := #[.bool ((rd_T66 l0_1 x3_2).f0), .string ((rd_T66 l0_1 x3_2).f1.f0), .string ((rd_T66 l0_1 x3_2).f1.f1), .int .i64 ((rd_T66 l0_1 x3_2).f1.f2), .int .i64 ((rd_T66 l0_1 x3_2).f1.f3), .int .i64 0, .int .i64 0, .int .i64 0]) ?_ 5 _ rfl; (with_reducible repeat (first | refine blk_drewN ?_ _ | refine blk_drew ?_ | refine blk_alloc ?_ _)); refine blk_put (cs := #[.bool ((rd_T66 l0_1 x3_2).f0), .string ((rd_T66 l0_1 x3_2).f1.f0), .string ((rd_T66 l0_1 x3_2).f1.f1), .int .i64 ((rd_T66 l0_1 x3_2).f1.f2), .int .i64 0, .int .i64 0, .int .i64 0, .int .i64 0]) ?_ 4 _ rfl; (with_reducible repeat (first | refine blk_drewN ?_ _ | refine blk_drew ?_ | refine blk_alloc ?_ _)); refine blk_put (cs := #[.bool ((rd_T66 l0_1 x3_2).f0), .string ((rd_T66 l0_1 x3_2).f1.f0), .string ((rd_T66 l0_1 x3_2).f1.f1), .int .i64 0, .int .i64 0, .int .i64 0, .int .i64 0, .int .i64 0]) ?_ 3 _ rfl; (with_reducible repeat (first | refine blk_drewN ?_ _ | refine blk_drew ?_ | refine blk_alloc ?_ _)); refine blk_put (cs := #[.bool ((rd_T66 l0_1 x3_2).f0), .string ((rd_T66 l0_1 x3_2).f1.f0), .string (⟨#[]⟩ : ByteArray), .int .i64 0, .int .i64 0, .int .i64 0, .int .i64 0, .int .i64 0]) ?_ 2 _ rfl; (with_reducible repeat (first | refine blk_drewN ?_ _ | refine blk_drew ?_ | refine blk_alloc ?_ _)); refine blk_put (cs := #[.bool ((rd_T66 l0_1 x3_2).f0), .string (⟨#[]⟩ : ByteArray), .string (⟨#[]⟩ : ByteArray), .int .i64 0, .int .i64 0, .int .i64 0, .int .i64 0, .int .i64 0]) ?_ 1 _ rfl; (with_reducible repeat (first | refine blk_drewN ?_ _ | refine blk_drew ?_ | refine blk_alloc ?_ _)); refine blk_put (cs := #[.bool false, .string (⟨#[]⟩ : ByteArray), .string (⟨#[]⟩ : ByteArray), .int .i64 0, .int .i64 0, .int .i64 0, .int .i64 0, .int .i64 0]) ?_ 0 _ rfl; (with_reducible repeat (first | refine blk_drewN ?_ _ | refine blk_drew ?_ | refine blk_alloc ?_ _)); exact BK181.out⟩
                          have n2_ : Aside0 (Below w.heap.size w ((((((((w14.setCell ⟨gb181, 0, none⟩ (.bool ((rd_T66 l0_1 x3_2).f0))).setCell ⟨gb181, 1, none⟩ (.string ((rd_T66 l0_1 x3_2).f1.f0))).setCell ⟨gb181, 2, none⟩ (.string ((rd_T66 l0_1 x3_2).f1.f1))).setCell ⟨gb181, 3, none⟩ (.int .i64 ((rd_T66 l0_1 x3_2).f1.f2))).setCell ⟨gb181, 4, none⟩ (.int .i64 ((rd_T66 l0_1 x3_2).f1.f3))).setCell ⟨gb181, 5, none⟩ (.int .i64 ((rd_T66 l0_1 x3_2).f1.f4))).setCell ⟨gb181, 6, none⟩ (.int .i64 ((rd_T66 l0_1 x3_2).f1.f5))).setCell ⟨gb181, 7, none⟩ (.int .i64 ((rd_T66 l0_1 x3_2).f1.f6)))) := ⟨by repeat (first | (with_reducible first | exact HB.out | apply below_alloc | apply pw_below_drewN | apply below_drew1 | refine below_set ?_ GE179.out | refine below_set ?_ GE181.out) | exact HB.out)⟩
                          (try clear BK179)
                          (try clear BK181)
                          (try clear HB)
                          generalize ((((((((w14.setCell ⟨gb181, 0, none⟩ (.bool ((rd_T66 l0_1 x3_2).f0))).setCell ⟨gb181, 1, none⟩ (.string ((rd_T66 l0_1 x3_2).f1.f0))).setCell ⟨gb181, 2, none⟩ (.string ((rd_T66 l0_1 x3_2).f1.f1))).setCell ⟨gb181, 3, none⟩ (.int .i64 ((rd_T66 l0_1 x3_2).f1.f2))).setCell ⟨gb181, 4, none⟩ (.int .i64 ((rd_T66 l0_1 x3_2).f1.f3))).setCell ⟨gb181, 5, none⟩ (.int .i64 ((rd_T66 l0_1 x3_2).f1.f4))).setCell ⟨gb181, 6, none⟩ (.int .i64 ((rd_T66 l0_1 x3_2).f1.f5))).setCell ⟨gb181, 7, none⟩ (.int .i64 ((rd_T66 l0_1 x3_2).f1.f6))) = w23 at n0_ n1_ n2_ ⊢
                          have BK179 := n0_
                          have BK181 := n1_
                          have HB := n2_
                          clear n0_ n1_ n2_
                          have n0_ := Aside0.mk (blk_drew BK179.out)
                          have n1_ := Aside0.mk (blk_drew BK181.out)
                          have n2_ := Aside0.mk (below_drew1 HB.out)
                          clear BK179
                          clear BK181
                          clear HB
                          have BK179 := n0_
                          have BK181 := n1_
                          have HB := n2_
                          clear n0_ n1_ n2_
                          have p183 : 0 ≤ ((ji20) : Int) := of_decide_eq_true (by first | (with_reducible assumption) | assumption)
                          have q183 : (ji20) < (l0_1.length : Int) := of_decide_eq_true (by first | (with_reducible assumption) | assumption)
                          obtain ⟨ad183, e183, hx183_0, hx183_1, hx183_2, hx183_3, hx183_4, hx183_5, hx183_6, hx183_7⟩ := at_T66 HR0_1.out (ji20) p183 q183
                          have hw183_7 := hx183_7
                          have hw183_6 := hx183_6
                          have hw183_5 := hx183_5
                          have hw183_4 := hx183_4
                          have hw183_3 := hx183_3
                          have hw183_2 := hx183_2
                          have hw183_1 := hx183_1
                          have hw183_0 := hx183_0
                          obtain rfl : ad180 = ad183 := (by injection e183)
                          replace hx183_0 := pw_cell_below HB.out hx183_0
                          replace hx183_1 := pw_cell_below HB.out hx183_1
                          replace hx183_2 := pw_cell_below HB.out hx183_2
                          replace hx183_3 := pw_cell_below HB.out hx183_3
                          replace hx183_4 := pw_cell_below HB.out hx183_4
                          replace hx183_5 := pw_cell_below HB.out hx183_5
                          replace hx183_6 := pw_cell_below HB.out hx183_6
                          replace hx183_7 := pw_cell_below HB.out hx183_7
                          replace p183 := eq_true p183
                          replace q183 := eq_true q183
                          refine start_ (n := 22) (S := fun w' => w'.cell? ⟨gb181, 0, none⟩ = some (.bool ((rd_T66 l0_1 x3_2).f0)) ∧ w'.cell? ⟨gb181, 1, none⟩ = some (.string ((rd_T66 l0_1 x3_2).f1.f0)) ∧ w'.cell? ⟨gb181, 2, none⟩ = some (.string ((rd_T66 l0_1 x3_2).f1.f1)) ∧ w'.cell? ⟨gb181, 3, none⟩ = some (.int .i64 ((rd_T66 l0_1 x3_2).f1.f2)) ∧ w'.cell? ⟨gb181, 4, none⟩ = some (.int .i64 ((rd_T66 l0_1 x3_2).f1.f3)) ∧ w'.cell? ⟨gb181, 5, none⟩ = some (.int .i64 ((rd_T66 l0_1 x3_2).f1.f4)) ∧ w'.cell? ⟨gb181, 6, none⟩ = some (.int .i64 ((rd_T66 l0_1 x3_2).f1.f5)) ∧ w'.cell? ⟨gb181, 7, none⟩ = some (.int .i64 ((rd_T66 l0_1 x3_2).f1.f6)) ∧ w'.cell? ⟨gb179, 0, none⟩ = some (.int .i64 a0_0) ∧ w'.cell? ⟨gb179, 1, none⟩ = some (.slice (some ad180) l0_1.length c0_1) ∧ w'.cell? (ad180.add (((ji20)).toNat * 8)) = some (.bool ((rd_T66 l0_1 (ji20)).f0)) ∧ w'.cell? ⟨(ad180.add (((ji20)).toNat * 8)).block, (ad180.add (((ji20)).toNat * 8)).off + 1, none⟩ = some (.string ((rd_T66 l0_1 (ji20)).f1.f0)) ∧ w'.cell? ⟨(ad180.add (((ji20)).toNat * 8)).block, (ad180.add (((ji20)).toNat * 8)).off + 2, none⟩ = some (.string ((rd_T66 l0_1 (ji20)).f1.f1)) ∧ w'.cell? ⟨(ad180.add (((ji20)).toNat * 8)).block, (ad180.add (((ji20)).toNat * 8)).off + 3, none⟩ = some (.int .i64 ((rd_T66 l0_1 (ji20)).f1.f2)) ∧ w'.cell? ⟨(ad180.add (((ji20)).toNat * 8)).block, (ad180.add (((ji20)).toNat * 8)).off + 4, none⟩ = some (.int .i64 ((rd_T66 l0_1 (ji20)).f1.f3)) ∧ w'.cell? ⟨(ad180.add (((ji20)).toNat * 8)).block, (ad180.add (((ji20)).toNat * 8)).off + 5, none⟩ = some (.int .i64 ((rd_T66 l0_1 (ji20)).f1.f4)) ∧ w'.cell? ⟨(ad180.add (((ji20)).toNat * 8)).block, (ad180.add (((ji20)).toNat * 8)).off + 6, none⟩ = some (.int .i64 ((rd_T66 l0_1 (ji20)).f1.f5)) ∧ w'.cell? ⟨(ad180.add (((ji20)).toNat * 8)).block, (ad180.add (((ji20)).toNat * 8)).off + 7, none⟩ = some (.int .i64 ((rd_T66 l0_1 (ji20)).f1.f6))) (ds := []) #[false, false, false, false, false, false, false, false, false, false, false, false, false, false, false, false, false, false, false, false, false, false] (by kernel_rfl) rfl rfl ⟨(blk_cell BK181.out 0).trans rfl, (blk_cell BK181.out 1).trans rfl, (blk_cell BK181.out 2).trans rfl, (blk_cell BK181.out 3).trans rfl, (blk_cell BK181.out 4).trans rfl, (blk_cell BK181.out 5).trans rfl, (blk_cell BK181.out 6).trans rfl, (blk_cell BK181.out 7).trans rfl, (blk_cell BK179.out 0).trans rfl, (blk_cell BK179.out 1).trans rfl, (pw_cell_below HB.out hw183_0), (pw_cell_below HB.out hw183_1), (pw_cell_below HB.out hw183_2), (pw_cell_below HB.out hw183_3), (pw_cell_below HB.out hw183_4), (pw_cell_below HB.out hw183_5), (pw_cell_below HB.out hw183_6), (pw_cell_below HB.out hw183_7)⟩ (fun hHeld => ?_); refine with_tabW spec_ValidTxn.tab7 spec_ValidTxn.bits7 (fun HT_ HW_ => ?_)
                          generalize w23.drew = w24 at BK179 BK181 HB hx183_0 hx183_1 hx183_2 hx183_3 hx183_4 hx183_5 hx183_6 hx183_7 hHeld ⊢
                          refine pure_ (i := 0) (N := some 31) (v := ?_) (a' := ?_) #[true, false, false, false, false, false, false, false, false, false, false, false, false, false, false, false, false, false, false, false, false, false] rfl rfl (any_of HT_.out (by kernel_rfl)) (fun _ _ _ h => h) (Or.inl ⟨by rfl, ?_⟩) ?_ ?_
                          rotate_left
                          · intro w'
                            go_simp
                            with_reducible rfl
                          rotate_left
                          · simp only [Act.put, List.setIfInBounds_toArray, List.set_cons_zero, List.set_cons_succ, i64_w, i32_w]
                            rfl
                          refine take_ (i := 1) (N := some 32) (v := ?_) (a' := ?_) #[true, true, false, false, false, false, false, false, false, false, false, false, false, false, false, false, false, false, false, false, false, false] rfl rfl (take_ofW HT_.out HW_.out (by kernel_rfl)) (fun _ _ _ h => h) (Or.inl ⟨by rfl, ?_⟩) hHeld ?_ ?_
                          rotate_left
                          · rintro w' ⟨s0, s1, s2, s3, s4, s5, s6, s7, s8, s9, s10, s11, s12, s13, s14, s15, s16, s17⟩
                            go_simp
                            with_reducible rfl
                          rotate_left
                          · simp only [Act.put, List.setIfInBounds_toArray, List.set_cons_zero, List.set_cons_succ, i64_w, i32_w]
                            rfl
                          refine one_ (i := 2) (N := some 33) #[true, true, true, false, false, false, false, false, false, false, false, false, false, false, false, false, false, false, false, false, false, false] rfl rfl (one_of HT_.out (by kernel_rfl)) (by decide) (fun K hK => ?_)
                          refine goes_ Tryd.func40 (by kernel_rfl) rfl #[.agg #[.string ((rd_T66 l0_1 x3_2).f1.f0), .string ((rd_T66 l0_1 x3_2).f1.f1), .int .i64 ((rd_T66 l0_1 x3_2).f1.f2), .int .i64 ((rd_T66 l0_1 x3_2).f1.f3), .int .i64 ((rd_T66 l0_1 x3_2).f1.f4), .int .i64 ((rd_T66 l0_1 x3_2).f1.f5), .int .i64 ((rd_T66 l0_1 x3_2).f1.f6)]] (by rfl) rfl rfl (by (try simp only [List.map_toArray, List.map_cons, List.map_nil]); first | done | rfl | (simp only [List.length_drop, List.length_take]; rfl)) ?_
                          with_reducible refine (spec_l3ValidNode.calls k2 ((rd_T66 l0_1 x3_2).f1.f0) ((rd_T66 l0_1 x3_2).f1.f1) ((rd_T66 l0_1 x3_2).f1.f2) ((rd_T66 l0_1 x3_2).f1.f3) ((rd_T66 l0_1 x3_2).f1.f4) ((rd_T66 l0_1 x3_2).f1.f5) ((rd_T66 l0_1 x3_2).f1.f6) true _ A17.out).mono ?_
                          rintro e w25 ⟨rfl, hb⟩
                          refine ⟨_, rfl, ?_⟩
                          have n0_ := Aside0.mk (blk_below (g := gb179) (o := .cells #[.int .i64 a0_0, .slice (some ad180) l0_1.length c0_1] 41 (0, 0)) (by (with_reducible repeat (first | refine blk_drewN ?_ _ | refine blk_drew ?_ | refine blk_alloc ?_ _)); exact BK179.out) hb)
                          have n1_ := Aside0.mk (blk_below (g := gb181) (o := .cells #[.bool ((rd_T66 l0_1 x3_2).f0), .string ((rd_T66 l0_1 x3_2).f1.f0), .string ((rd_T66 l0_1 x3_2).f1.f1), .int .i64 ((rd_T66 l0_1 x3_2).f1.f2), .int .i64 ((rd_T66 l0_1 x3_2).f1.f3), .int .i64 ((rd_T66 l0_1 x3_2).f1.f4), .int .i64 ((rd_T66 l0_1 x3_2).f1.f5), .int .i64 ((rd_T66 l0_1 x3_2).f1.f6)] 66 (0, 0)) (by (with_reducible repeat (first | refine blk_drewN ?_ _ | refine blk_drew ?_ | refine blk_alloc ?_ _)); exact BK181.out) hb)
                          have n2_ := Aside0.mk (below_step (by repeat (first | (with_reducible first | exact HB.out | apply below_alloc | apply pw_below_drewN | apply below_drew1 | refine below_set ?_ GE179.out | refine below_set ?_ GE181.out) | exact HB.out)) hb)
                          clear BK179
                          clear BK181
                          clear HB
                          have BK179 := n0_
                          have BK181 := n1_
                          have HB := n2_
                          clear n0_ n1_ n2_
                          (try clear hb)
                          (try clear hb2)
                          (try clear hk)
                          (try clear hi)
                          refine hK.out _ _ ⟨(blk_cell BK181.out 0).trans rfl, (blk_cell BK181.out 1).trans rfl, (blk_cell BK181.out 2).trans rfl, (blk_cell BK181.out 3).trans rfl, (blk_cell BK181.out 4).trans rfl, (blk_cell BK181.out 5).trans rfl, (blk_cell BK181.out 6).trans rfl, (blk_cell BK181.out 7).trans rfl, (blk_cell BK179.out 0).trans rfl, (blk_cell BK179.out 1).trans rfl, (pw_cell_below HB.out hw183_0), (pw_cell_below HB.out hw183_1), (pw_cell_below HB.out hw183_2), (pw_cell_below HB.out hw183_3), (pw_cell_below HB.out hw183_4), (pw_cell_below HB.out hw183_5), (pw_cell_below HB.out hw183_6), (pw_cell_below HB.out hw183_7)⟩ (fun hHeld => ?_)
                          clear hK K
                          refine norm_ (a' := ?_) ?_ ?_
                          rotate_left
                          · show Act.put _ (some 33) _ = _
                            simp only [Act.put, List.setIfInBounds_toArray, List.set_cons_zero, List.set_cons_succ, i64_w, i32_w]
                            rfl
                          refine pure_ (i := 3) (N := some 34) (v := ?_) (a' := ?_) #[true, true, true, true, false, false, false, false, false, false, false, false, false, false, false, false, false, false, false, false, false, false] rfl rfl (any_of HT_.out (by kernel_rfl)) (fun _ _ _ h => h) (Or.inl ⟨by rfl, ?_⟩) ?_ ?_
                          rotate_left
                          · intro w'
                            go_simp
                            with_reducible rfl
                          rotate_left
                          · simp only [Act.put, List.setIfInBounds_toArray, List.set_cons_zero, List.set_cons_succ, i64_w, i32_w]
                            rfl
                          refine pure_ (i := 4) (N := some 35) (v := ?_) (a' := ?_) #[true, true, true, true, true, false, false, false, false, false, false, false, false, false, false, false, false, false, false, false, false, false] rfl rfl (any_of HT_.out (by kernel_rfl)) (fun _ _ _ h => h) (Or.inl ⟨by rfl, ?_⟩) ?_ ?_
                          rotate_left
                          · intro w'
                            go_simp
                            with_reducible rfl
                          rotate_left
                          · simp only [Act.put, List.setIfInBounds_toArray, List.set_cons_zero, List.set_cons_succ, i64_w, i32_w]
                            rfl
                          refine pure_ (i := 5) (N := some 36) (v := ?_) (a' := ?_) #[true, true, true, true, true, true, false, false, false, false, false, false, false, false, false, false, false, false, false, false, false, false] rfl rfl (any_of HT_.out (by kernel_rfl)) (fun _ _ _ h => h) (Or.inl ⟨by rfl, ?_⟩) ?_ ?_
                          rotate_left
                          · intro w'
                            go_simp
                            with_reducible rfl
                          rotate_left
                          · simp only [Act.put, List.setIfInBounds_toArray, List.set_cons_zero, List.set_cons_succ, i64_w, i32_w]
                            rfl
                          refine pure_ (i := 6) (N := some 37) (v := ?_) (a' := ?_) #[true, true, true, true, true, true, true, false, false, false, false, false, false, false, false, false, false, false, false, false, false, false] rfl rfl (any_of HT_.out (by kernel_rfl)) (fun _ _ _ h => h) (Or.inl ⟨by rfl, ?_⟩) ?_ ?_
                          rotate_left
                          · intro w'
                            go_simp
                            with_reducible rfl
                          rotate_left
                          · simp only [Act.put, List.setIfInBounds_toArray, List.set_cons_zero, List.set_cons_succ, i64_w, i32_w]
                            rfl
                          refine pure_ (i := 7) (N := some 38) (v := ?_) (a' := ?_) #[true, true, true, true, true, true, true, true, false, false, false, false, false, false, false, false, false, false, false, false, false, false] rfl rfl (any_of HT_.out (by kernel_rfl)) (fun _ _ _ h => h) (Or.inl ⟨by rfl, ?_⟩) ?_ ?_
                          rotate_left
                          · intro w'
                            go_simp
                            with_reducible rfl
                          rotate_left
                          · simp only [Act.put, List.setIfInBounds_toArray, List.set_cons_zero, List.set_cons_succ, i64_w, i32_w]
                            rfl
                          refine pure_ (i := 8) (N := some 39) (v := ?_) (a' := ?_) #[true, true, true, true, true, true, true, true, true, false, false, false, false, false, false, false, false, false, false, false, false, false] rfl rfl (any_of HT_.out (by kernel_rfl)) (fun _ _ _ h => h) (Or.inl ⟨by rfl, ?_⟩) ?_ ?_
                          rotate_left
                          · intro w'
                            go_simp
                            with_reducible rfl
                          rotate_left
                          · simp only [Act.put, List.setIfInBounds_toArray, List.set_cons_zero, List.set_cons_succ, i64_w, i32_w]
                            rfl
                          refine pure_ (i := 9) (N := some 40) (v := ?_) (a' := ?_) #[true, true, true, true, true, true, true, true, true, true, false, false, false, false, false, false, false, false, false, false, false, false] rfl rfl (any_of HT_.out (by kernel_rfl)) (fun _ _ _ h => h) (Or.inl ⟨by rfl, ?_⟩) ?_ ?_
                          rotate_left
                          · intro w'
                            go_simp
                            with_reducible rfl
                          rotate_left
                          · simp only [Act.put, List.setIfInBounds_toArray, List.set_cons_zero, List.set_cons_succ, i64_w, i32_w]
                            rfl
                          refine pure_ (i := 11) (N := some 42) (v := ?_) (a' := ?_) #[true, true, true, true, true, true, true, true, true, true, false, true, false, false, false, false, false, false, false, false, false, false] rfl rfl (any_of HT_.out (by kernel_rfl)) (fun _ _ _ h => h) (Or.inl ⟨by rfl, ?_⟩) ?_ ?_
                          rotate_left
                          · intro w'
                            go_simp
                            with_reducible rfl
                          rotate_left
                          · simp only [Act.put, List.setIfInBounds_toArray, List.set_cons_zero, List.set_cons_succ, i64_w, i32_w]
                            rfl
                          refine pure_ (i := 13) (N := some 44) (v := ?_) (a' := ?_) #[true, true, true, true, true, true, true, true, true, true, false, true, false, true, false, false, false, false, false, false, false, false] rfl rfl (any_of HT_.out (by kernel_rfl)) (fun _ _ _ h => h) (Or.inl ⟨by rfl, ?_⟩) ?_ ?_
                          rotate_left
                          · intro w'
                            go_simp
                            with_reducible rfl
                          rotate_left
                          · simp only [Act.put, List.setIfInBounds_toArray, List.set_cons_zero, List.set_cons_succ, i64_w, i32_w]
                            rfl
                          refine pure_ (i := 14) (N := some 45) (v := ?_) (a' := ?_) #[true, true, true, true, true, true, true, true, true, true, false, true, false, true, true, false, false, false, false, false, false, false] rfl rfl (any_of HT_.out (by kernel_rfl)) (fun _ _ _ h => h) (Or.inl ⟨by rfl, ?_⟩) ?_ ?_
                          rotate_left
                          · intro w'
                            go_simp
                            with_reducible rfl
                          rotate_left
                          · simp only [Act.put, List.setIfInBounds_toArray, List.set_cons_zero, List.set_cons_succ, i64_w, i32_w]
                            rfl
                          refine take_ (i := 10) (N := some 41) (v := ?_) (a' := ?_) #[true, true, true, true, true, true, true, true, true, true, true, true, false, true, true, false, false, false, false, false, false, false] rfl rfl (take_ofW HT_.out HW_.out (by kernel_rfl)) (fun _ _ _ h => h) (Or.inl ⟨by rfl, ?_⟩) hHeld ?_ ?_
                          rotate_left
                          · rintro w' ⟨s0, s1, s2, s3, s4, s5, s6, s7, s8, s9, s10, s11, s12, s13, s14, s15, s16, s17⟩
                            go_simp
                            with_reducible rfl
                          rotate_left
                          · simp only [Act.put, List.setIfInBounds_toArray, List.set_cons_zero, List.set_cons_succ, i64_w, i32_w]
                            rfl
                          refine take_ (i := 12) (N := some 43) (v := ?_) (a' := ?_) #[true, true, true, true, true, true, true, true, true, true, true, true, true, true, true, false, false, false, false, false, false, false] rfl rfl (take_ofW HT_.out HW_.out (by kernel_rfl)) (fun _ _ _ h => h) (Or.inl ⟨by rfl, ?_⟩) hHeld ?_ ?_
                          rotate_left
                          · rintro w' ⟨s0, s1, s2, s3, s4, s5, s6, s7, s8, s9, s10, s11, s12, s13, s14, s15, s16, s17⟩
                            go_simp
                            with_reducible rfl
                          rotate_left
                          · simp only [Act.put, List.setIfInBounds_toArray, List.set_cons_zero, List.set_cons_succ, i64_w, i32_w]
                            rfl
                          refine pure_ (i := 15) (N := some 46) (v := ?_) (a' := ?_) #[true, true, true, true, true, true, true, true, true, true, true, true, true, true, true, true, false, false, false, false, false, false] rfl rfl (any_of HT_.out (by kernel_rfl)) (fun _ _ _ h => h) (Or.inl ⟨by rfl, ?_⟩) ?_ ?_
                          rotate_left
                          · intro w'
                            go_simp
                            with_reducible rfl
                          rotate_left
                          · simp only [Act.put, List.setIfInBounds_toArray, List.set_cons_zero, List.set_cons_succ, i64_w, i32_w]
                            rfl
                          refine pure_ (i := 16) (N := some 47) (v := ?_) (a' := ?_) #[true, true, true, true, true, true, true, true, true, true, true, true, true, true, true, true, true, false, false, false, false, false] rfl rfl (any_of HT_.out (by kernel_rfl)) (fun _ _ _ h => h) (Or.inl ⟨by rfl, ?_⟩) ?_ ?_
                          rotate_left
                          · intro w'
                            go_simp
                            with_reducible rfl
                          rotate_left
                          · simp only [Act.put, List.setIfInBounds_toArray, List.set_cons_zero, List.set_cons_succ, i64_w, i32_w]
                            rfl
                          refine pure_ (i := 17) (N := some 48) (v := ?_) (a' := ?_) #[true, true, true, true, true, true, true, true, true, true, true, true, true, true, true, true, true, true, false, false, false, false] rfl rfl (any_of HT_.out (by kernel_rfl)) (fun _ _ _ h => h) (Or.inl ⟨by rfl, ?_⟩) ?_ ?_
                          rotate_left
                          · intro w'
                            go_simp
                            with_reducible rfl
                          rotate_left
                          · simp only [Act.put, List.setIfInBounds_toArray, List.set_cons_zero, List.set_cons_succ, i64_w, i32_w]
                            rfl
                          refine take_ (i := 18) (N := some 49) (v := ?_) (a' := ?_) #[true, true, true, true, true, true, true, true, true, true, true, true, true, true, true, true, true, true, true, false, false, false] rfl rfl (take_ofW HT_.out HW_.out (by kernel_rfl)) (fun _ _ _ h => h) (Or.inl ⟨by rfl, ?_⟩) hHeld ?_ ?_
                          rotate_left
                          · rintro w' ⟨s0, s1, s2, s3, s4, s5, s6, s7, s8, s9, s10, s11, s12, s13, s14, s15, s16, s17⟩
                            go_simp
                            with_reducible rfl
                          rotate_left
                          · simp only [Act.put, List.setIfInBounds_toArray, List.set_cons_zero, List.set_cons_succ, i64_w, i32_w]
                            rfl
                          refine pure_ (i := 19) (N := some 50) (v := ?_) (a' := ?_) #[true, true, true, true, true, true, true, true, true, true, true, true, true, true, true, true, true, true, true, true, false, false] rfl rfl (any_of HT_.out (by kernel_rfl)) (fun _ _ _ h => h) (Or.inl ⟨by rfl, ?_⟩) ?_ ?_
                          rotate_left
                          · intro w'
                            go_simp
                            with_reducible rfl
                          rotate_left
                          · simp only [Act.put, List.setIfInBounds_toArray, List.set_cons_zero, List.set_cons_succ, i64_w, i32_w]
                            rfl
                          refine pure_ (i := 20) (N := some 51) (v := ?_) (a' := ?_) #[true, true, true, true, true, true, true, true, true, true, true, true, true, true, true, true, true, true, true, true, true, false] rfl rfl (any_of HT_.out (by kernel_rfl)) (fun _ _ _ h => h) (Or.inl ⟨by rfl, ?_⟩) ?_ ?_
                          rotate_left
                          · intro w'
                            go_simp
                            with_reducible rfl
                          rotate_left
                          · simp only [Act.put, List.setIfInBounds_toArray, List.set_cons_zero, List.set_cons_succ, i64_w, i32_w]
                            rfl
                          refine pure_ (i := 21) (N := some 52) (v := ?_) (a' := ?_) #[true, true, true, true, true, true, true, true, true, true, true, true, true, true, true, true, true, true, true, true, true, true] rfl rfl (any_of HT_.out (by kernel_rfl)) (fun _ _ _ h => h) (Or.inl ⟨by rfl, ?_⟩) ?_ ?_
                          rotate_left
                          · intro w'
                            go_simp
                            with_reducible rfl
                          rotate_left
                          · simp only [Act.put, List.setIfInBounds_toArray, List.set_cons_zero, List.set_cons_succ, i64_w, i32_w]
                            rfl
                          refine done_ (done_of HT_.out (by kernel_rfl)) ?_
                          try go_wp2
                          go_meet
                          case rel => exact ⟨_, (!(Op.bytesLess (((rd_T66 l0_1 (ji20)).f1.f0).toList) (((rd_T66 l0_1 x3_2).f1.f0).toList))), (by first | rfl | (simp; done) | (simp only [← hji20] <;> (first | rfl | simp)) | (simp [*]; done)), H', ⟨by have := HJ1.out; have := HK2.out; first | omega | exact Nat.le_refl _⟩, ⟨by (with_reducible repeat (first | refine blk_drewN ?_ _ | refine blk_drew ?_ | refine blk_alloc ?_ _)); exact BK179.out⟩, ⟨by (with_reducible repeat (first | refine blk_drewN ?_ _ | refine blk_drew ?_ | refine blk_alloc ?_ _)); exact BK181.out⟩, ⟨by repeat (first | (with_reducible first | exact HB.out | apply below_alloc | apply pw_below_drewN | apply below_drew1 | refine below_set ?_ GE179.out | refine below_set ?_ GE181.out) | exact HB.out)⟩⟩
                        · rw [if_neg c22] at H
                          exact absurd H (by simp)
                      · rw [if_neg c21] at H
                        exact absurd H (by simp)
                    · rw [if_neg c19] at H
                      have c19b0 : decide (0 < x3_2) = false := decide_eq_false c19
                      clear c19
                      (first | rw [c19b0] | (simp only [i64_w, i32_w]; rw [c19b0]) | skip)
                      have H' := Aside0.mk H
                      clear H
                      try go_wp2
                      have n0_ : Aside0 (((((((((w14.setCell ⟨gb181, 0, none⟩ (.bool ((rd_T66 l0_1 x3_2).f0))).setCell ⟨gb181, 1, none⟩ (.string ((rd_T66 l0_1 x3_2).f1.f0))).setCell ⟨gb181, 2, none⟩ (.string ((rd_T66 l0_1 x3_2).f1.f1))).setCell ⟨gb181, 3, none⟩ (.int .i64 ((rd_T66 l0_1 x3_2).f1.f2))).setCell ⟨gb181, 4, none⟩ (.int .i64 ((rd_T66 l0_1 x3_2).f1.f3))).setCell ⟨gb181, 5, none⟩ (.int .i64 ((rd_T66 l0_1 x3_2).f1.f4))).setCell ⟨gb181, 6, none⟩ (.int .i64 ((rd_T66 l0_1 x3_2).f1.f5))).setCell ⟨gb181, 7, none⟩ (.int .i64 ((rd_T66 l0_1 x3_2).f1.f6))).heap[gb179]? = some (.cells #[.int .i64 a0_0, .slice (some ad180) l0_1.length c0_1] 41 (0, 0))) := ⟨by (with_reducible repeat (first | refine blk_drewN ?_ _ | refine blk_drew ?_ | refine blk_alloc ?_ _)); refine blk_far ?_ NB179_181.out _; (with_reducible repeat (first | refine blk_drewN ?_ _ | refine blk_drew ?_ | refine blk_alloc ?_ _)); refine blk_far ?_ NB179_181.out _; (with_reducible repeat (first | refine blk_drewN ?_ _ | refine blk_drew ?_ | refine blk_alloc ?_ _)); refine blk_far ?_ NB179_181.out _; (with_reducible repeat (first | refine blk_drewN ?_ _ | refine blk_drew ?_ | refine blk_alloc ?_ _)); refine blk_far ?_ NB179_181.out _; (with_reducible repeat (first | refine blk_drewN ?_ _ | refine blk_drew ?_ | refine blk_alloc ?_ _)); refine blk_far ?_ NB179_181.out _; (with_reducible repeat (first | refine blk_drewN ?_ _ | refine blk_drew ?_ | refine blk_alloc ?_ _)); refine blk_far ?_ NB179_181.out _; (with_reducible repeat (first | refine blk_drewN ?_ _ | refine blk_drew ?_ | refine blk_alloc ?_ _)); refine blk_far ?_ NB179_181.out _; (with_reducible repeat (first | refine blk_drewN ?_ _ | refine blk_drew ?_ | refine blk_alloc ?_ _)); refine blk_far ?_ NB179_181.out _; (with_reducible repeat (first | refine blk_drewN ?_ _ | refine blk_drew ?_ | refine blk_alloc ?_ _)); exact BK179.out⟩
                      have n1_ : Aside0 (((((((((w14.setCell ⟨gb181, 0, none⟩ (.bool ((rd_T66 l0_1 x3_2).f0))).setCell ⟨gb181, 1, none⟩ (.string ((rd_T66 l0_1 x3_2).f1.f0))).setCell ⟨gb181, 2, none⟩ (.string ((rd_T66 l0_1 x3_2).f1.f1))).setCell ⟨gb181, 3, none⟩ (.int .i64 ((rd_T66 l0_1 x3_2).f1.f2))).setCell ⟨gb181, 4, none⟩ (.int .i64 ((rd_T66 l0_1 x3_2).f1.f3))).setCell ⟨gb181, 5, none⟩ (.int .i64 ((rd_T66 l0_1 x3_2).f1.f4))).setCell ⟨gb181, 6, none⟩ (.int .i64 ((rd_T66 l0_1 x3_2).f1.f5))).setCell ⟨gb181, 7, none⟩ (.int .i64 ((rd_T66 l0_1 x3_2).f1.f6))).heap[gb181]? = some (.cells #[.bool ((rd_T66 l0_1 x3_2).f0), .string ((rd_T66 l0_1 x3_2).f1.f0), .string ((rd_T66 l0_1 x3_2).f1.f1), .int .i64 ((rd_T66 l0_1 x3_2).f1.f2), .int .i64 ((rd_T66 l0_1 x3_2).f1.f3), .int .i64 ((rd_T66 l0_1 x3_2).f1.f4), .int .i64 ((rd_T66 l0_1 x3_2).f1.f5), .int .i64 ((rd_T66 l0_1 x3_2).f1.f6)] 66 (0, 0))) := ⟨by (with_reducible repeat (first | refine blk_drewN ?_ _ | refine blk_drew ?_ | refine blk_alloc ?_ _)); refine blk_put (cs := #[.bool ((rd_T66 l0_1 x3_2).f0), .string ((rd_T66 l0_1 x3_2).f1.f0), .string ((rd_T66 l0_1 x3_2).f1.f1), .int .i64 ((rd_T66 l0_1 x3_2).f1.f2), .int .i64 ((rd_T66 l0_1 x3_2).f1.f3), .int .i64 ((rd_T66 l0_1 x3_2).f1.f4), .int .i64 ((rd_T66 l0_1 x3_2).f1.f5), .int .i64 0]) ?_ 7 _ rfl; (with_reducible repeat (first | refine blk_drewN ?_ _ | refine blk_drew ?_ | refine blk_alloc ?_ _)); refine blk_put (cs := #[.bool ((rd_T66 l0_1 x3_2).f0), .string ((rd_T66 l0_1 x3_2).f1.f0), .string ((rd_T66 l0_1 x3_2).f1.f1), .int .i64 ((rd_T66 l0_1 x3_2).f1.f2), .int .i64 ((rd_T66 l0_1 x3_2).f1.f3), .int .i64 ((rd_T66 l0_1 x3_2).f1.f4), .int .i64 0, .int .i64 0]) ?_ 6 _ rfl; (with_reducible repeat (first | refine blk_drewN ?_ _ | refine blk_drew ?_ | refine blk_alloc ?_ _)); refine blk_put (cs := #[.bool ((rd_T66 l0_1 x3_2).f0), .string ((rd_T66 l0_1 x3_2).f1.f0), .string ((rd_T66 l0_1 x3_2).f1.f1), .int .i64 ((rd_T66 l0_1 x3_2).f1.f2), .int .i64 ((rd_T66 l0_1 x3_2).f1.f3), .int .i64 0, .int .i64 0, .int .i64 0]) ?_ 5 _ rfl; (with_reducible repeat (first | refine blk_drewN ?_ _ | refine blk_drew ?_ | refine blk_alloc ?_ _)); refine blk_put (cs := #[.bool ((rd_T66 l0_1 x3_2).f0), .string ((rd_T66 l0_1 x3_2).f1.f0), .string ((rd_T66 l0_1 x3_2).f1.f1), .int .i64 ((rd_T66 l0_1 x3_2).f1.f2), .int .i64 0, .int .i64 0, .int .i64 0, .int .i64 0]) ?_ 4 _ rfl; (with_reducible repeat (first | refine blk_drewN ?_ _ | refine blk_drew ?_ | refine blk_alloc ?_ _)); refine blk_put (cs := #[.bool ((rd_T66 l0_1 x3_2).f0), .string ((rd_T66 l0_1 x3_2).f1.f0), .string ((rd_T66 l0_1 x3_2).f1.f1), .int .i64 0, .int .i64 0, .int .i64 0, .int .i64 0, .int .i64 0]) ?_ 3 _ rfl; (with_reducible repeat (first | refine blk_drewN ?_ _ | refine blk_drew ?_ | refine blk_alloc ?_ _)); refine blk_put (cs := #[.bool ((rd_T66 l0_1 x3_2).f0), .string ((rd_T66 l0_1 x3_2).f1.f0), .string (⟨#[]⟩ : ByteArray), .int .i64 0, .int .i64 0, .int .i64 0, .int .i64 0, .int .i64 0]) ?_ 2 _ rfl; (with_reducible repeat (first | refine blk_drewN ?_ _ | refine blk_drew ?_ | refine blk_alloc ?_ _)); refine blk_put (cs := #[.bool ((rd_T66 l0_1 x3_2).f0), .string (⟨#[]⟩ : ByteArray), .string (⟨#[]⟩ : ByteArray), .int .i64 0, .int .i64 0, .int .i64 0, .int .i64 0, .int .i64 0]) ?_ 1 _ rfl; (with_reducible repeat (first | refine blk_drewN ?_ _ | refine blk_drew ?_ | refine blk_alloc ?_ _)); refine blk_put (cs := #[.bool false, .string (⟨#[]⟩ : ByteArray), .string (⟨#[]⟩ : ByteArray), .int .i64 0, .int .i64 0, .int .i64 0, .int .i64 0, .int .i64 0]) ?_ 0 _ rfl; (with_reducible repeat (first | refine blk_drewN ?_ _ | refine blk_drew ?_ | refine blk_alloc ?_ _)); exact BK181.out⟩
                      have n2_ : Aside0 (Below w.heap.size w ((((((((w14.setCell ⟨gb181, 0, none⟩ (.bool ((rd_T66 l0_1 x3_2).f0))).setCell ⟨gb181, 1, none⟩ (.string ((rd_T66 l0_1 x3_2).f1.f0))).setCell ⟨gb181, 2, none⟩ (.string ((rd_T66 l0_1 x3_2).f1.f1))).setCell ⟨gb181, 3, none⟩ (.int .i64 ((rd_T66 l0_1 x3_2).f1.f2))).setCell ⟨gb181, 4, none⟩ (.int .i64 ((rd_T66 l0_1 x3_2).f1.f3))).setCell ⟨gb181, 5, none⟩ (.int .i64 ((rd_T66 l0_1 x3_2).f1.f4))).setCell ⟨gb181, 6, none⟩ (.int .i64 ((rd_T66 l0_1 x3_2).f1.f5))).setCell ⟨gb181, 7, none⟩ (.int .i64 ((rd_T66 l0_1 x3_2).f1.f6)))) := ⟨by repeat (first | (with_reducible first | exact HB.out | apply below_alloc | apply pw_below_drewN | apply below_drew1 | refine below_set ?_ GE179.out | refine below_set ?_ GE181.out) | exact HB.out)⟩
                      (try clear BK179)
                      (try clear BK181)
                      (try clear HB)
                      generalize ((((((((w14.setCell ⟨gb181, 0, none⟩ (.bool ((rd_T66 l0_1 x3_2).f0))).setCell ⟨gb181, 1, none⟩ (.string ((rd_T66 l0_1 x3_2).f1.f0))).setCell ⟨gb181, 2, none⟩ (.string ((rd_T66 l0_1 x3_2).f1.f1))).setCell ⟨gb181, 3, none⟩ (.int .i64 ((rd_T66 l0_1 x3_2).f1.f2))).setCell ⟨gb181, 4, none⟩ (.int .i64 ((rd_T66 l0_1 x3_2).f1.f3))).setCell ⟨gb181, 5, none⟩ (.int .i64 ((rd_T66 l0_1 x3_2).f1.f4))).setCell ⟨gb181, 6, none⟩ (.int .i64 ((rd_T66 l0_1 x3_2).f1.f5))).setCell ⟨gb181, 7, none⟩ (.int .i64 ((rd_T66 l0_1 x3_2).f1.f6))) = w26 at n0_ n1_ n2_ ⊢
                      have BK179 := n0_
                      have BK181 := n1_
                      have HB := n2_
                      clear n0_ n1_ n2_
                      have n0_ := Aside0.mk (blk_drew BK179.out)
                      have n1_ := Aside0.mk (blk_drew BK181.out)
                      have n2_ := Aside0.mk (below_drew1 HB.out)
                      clear BK179
                      clear BK181
                      clear HB
                      have BK179 := n0_
                      have BK181 := n1_
                      have HB := n2_
                      clear n0_ n1_ n2_
                      refine start_ (n := 22) (S := fun w' => w'.cell? ⟨gb181, 0, none⟩ = some (.bool ((rd_T66 l0_1 x3_2).f0)) ∧ w'.cell? ⟨gb181, 1, none⟩ = some (.string ((rd_T66 l0_1 x3_2).f1.f0)) ∧ w'.cell? ⟨gb181, 2, none⟩ = some (.string ((rd_T66 l0_1 x3_2).f1.f1)) ∧ w'.cell? ⟨gb181, 3, none⟩ = some (.int .i64 ((rd_T66 l0_1 x3_2).f1.f2)) ∧ w'.cell? ⟨gb181, 4, none⟩ = some (.int .i64 ((rd_T66 l0_1 x3_2).f1.f3)) ∧ w'.cell? ⟨gb181, 5, none⟩ = some (.int .i64 ((rd_T66 l0_1 x3_2).f1.f4)) ∧ w'.cell? ⟨gb181, 6, none⟩ = some (.int .i64 ((rd_T66 l0_1 x3_2).f1.f5)) ∧ w'.cell? ⟨gb181, 7, none⟩ = some (.int .i64 ((rd_T66 l0_1 x3_2).f1.f6))) (ds := []) #[false, false, false, false, false, false, false, false, false, false, false, false, false, false, false, false, false, false, false, false, false, false] (by kernel_rfl) rfl rfl ⟨(blk_cell BK181.out 0).trans rfl, (blk_cell BK181.out 1).trans rfl, (blk_cell BK181.out 2).trans rfl, (blk_cell BK181.out 3).trans rfl, (blk_cell BK181.out 4).trans rfl, (blk_cell BK181.out 5).trans rfl, (blk_cell BK181.out 6).trans rfl, (blk_cell BK181.out 7).trans rfl⟩ (fun hHeld => ?_); refine with_tabW spec_ValidTxn.tab7 spec_ValidTxn.bits7 (fun HT_ HW_ => ?_)
                      generalize w26.drew = w27 at BK179 BK181 HB hHeld ⊢
                      refine pure_ (i := 0) (N := some 31) (v := ?_) (a' := ?_) #[true, false, false, false, false, false, false, false, false, false, false, false, false, false, false, false, false, false, false, false, false, false] rfl rfl (any_of HT_.out (by kernel_rfl)) (fun _ _ _ h => h) (Or.inl ⟨by rfl, ?_⟩) ?_ ?_
                      rotate_left
                      · intro w'
                        go_simp
                        with_reducible rfl
                      rotate_left
                      · simp only [Act.put, List.setIfInBounds_toArray, List.set_cons_zero, List.set_cons_succ, i64_w, i32_w]
                        rfl
                      refine take_ (i := 1) (N := some 32) (v := ?_) (a' := ?_) #[true, true, false, false, false, false, false, false, false, false, false, false, false, false, false, false, false, false, false, false, false, false] rfl rfl (take_ofW HT_.out HW_.out (by kernel_rfl)) (fun _ _ _ h => h) (Or.inl ⟨by rfl, ?_⟩) hHeld ?_ ?_
                      rotate_left
                      · rintro w' ⟨s0, s1, s2, s3, s4, s5, s6, s7⟩
                        go_simp
                        with_reducible rfl
                      rotate_left
                      · simp only [Act.put, List.setIfInBounds_toArray, List.set_cons_zero, List.set_cons_succ, i64_w, i32_w]
                        rfl
                      refine one_ (i := 2) (N := some 33) #[true, true, true, false, false, false, false, false, false, false, false, false, false, false, false, false, false, false, false, false, false, false] rfl rfl (one_of HT_.out (by kernel_rfl)) (by decide) (fun K hK => ?_)
                      refine goes_ Tryd.func40 (by kernel_rfl) rfl #[.agg #[.string ((rd_T66 l0_1 x3_2).f1.f0), .string ((rd_T66 l0_1 x3_2).f1.f1), .int .i64 ((rd_T66 l0_1 x3_2).f1.f2), .int .i64 ((rd_T66 l0_1 x3_2).f1.f3), .int .i64 ((rd_T66 l0_1 x3_2).f1.f4), .int .i64 ((rd_T66 l0_1 x3_2).f1.f5), .int .i64 ((rd_T66 l0_1 x3_2).f1.f6)]] (by rfl) rfl rfl (by (try simp only [List.map_toArray, List.map_cons, List.map_nil]); first | done | rfl | (simp only [List.length_drop, List.length_take]; rfl)) ?_
                      with_reducible refine (spec_l3ValidNode.calls k2 ((rd_T66 l0_1 x3_2).f1.f0) ((rd_T66 l0_1 x3_2).f1.f1) ((rd_T66 l0_1 x3_2).f1.f2) ((rd_T66 l0_1 x3_2).f1.f3) ((rd_T66 l0_1 x3_2).f1.f4) ((rd_T66 l0_1 x3_2).f1.f5) ((rd_T66 l0_1 x3_2).f1.f6) true _ A17.out).mono ?_
                      rintro e w28 ⟨rfl, hb⟩
                      refine ⟨_, rfl, ?_⟩
                      have n0_ := Aside0.mk (blk_below (g := gb179) (o := .cells #[.int .i64 a0_0, .slice (some ad180) l0_1.length c0_1] 41 (0, 0)) (by (with_reducible repeat (first | refine blk_drewN ?_ _ | refine blk_drew ?_ | refine blk_alloc ?_ _)); exact BK179.out) hb)
                      have n1_ := Aside0.mk (blk_below (g := gb181) (o := .cells #[.bool ((rd_T66 l0_1 x3_2).f0), .string ((rd_T66 l0_1 x3_2).f1.f0), .string ((rd_T66 l0_1 x3_2).f1.f1), .int .i64 ((rd_T66 l0_1 x3_2).f1.f2), .int .i64 ((rd_T66 l0_1 x3_2).f1.f3), .int .i64 ((rd_T66 l0_1 x3_2).f1.f4), .int .i64 ((rd_T66 l0_1 x3_2).f1.f5), .int .i64 ((rd_T66 l0_1 x3_2).f1.f6)] 66 (0, 0)) (by (with_reducible repeat (first | refine blk_drewN ?_ _ | refine blk_drew ?_ | refine blk_alloc ?_ _)); exact BK181.out) hb)
                      have n2_ := Aside0.mk (below_step (by repeat (first | (with_reducible first | exact HB.out | apply below_alloc | apply pw_below_drewN | apply below_drew1 | refine below_set ?_ GE179.out | refine below_set ?_ GE181.out) | exact HB.out)) hb)
                      clear BK179
                      clear BK181
                      clear HB
                      have BK179 := n0_
                      have BK181 := n1_
                      have HB := n2_
                      clear n0_ n1_ n2_
                      (try clear hb)
                      (try clear hb2)
                      (try clear hk)
                      (try clear hi)
                      refine hK.out _ _ ⟨(blk_cell BK181.out 0).trans rfl, (blk_cell BK181.out 1).trans rfl, (blk_cell BK181.out 2).trans rfl, (blk_cell BK181.out 3).trans rfl, (blk_cell BK181.out 4).trans rfl, (blk_cell BK181.out 5).trans rfl, (blk_cell BK181.out 6).trans rfl, (blk_cell BK181.out 7).trans rfl⟩ (fun hHeld => ?_)
                      clear hK K
                      refine norm_ (a' := ?_) ?_ ?_
                      rotate_left
                      · show Act.put _ (some 33) _ = _
                        simp only [Act.put, List.setIfInBounds_toArray, List.set_cons_zero, List.set_cons_succ, i64_w, i32_w]
                        rfl
                      refine pure_ (i := 3) (N := some 34) (v := ?_) (a' := ?_) #[true, true, true, true, false, false, false, false, false, false, false, false, false, false, false, false, false, false, false, false, false, false] rfl rfl (any_of HT_.out (by kernel_rfl)) (fun _ _ _ h => h) (Or.inl ⟨by rfl, ?_⟩) ?_ ?_
                      rotate_left
                      · intro w'
                        go_simp
                        with_reducible rfl
                      rotate_left
                      · simp only [Act.put, List.setIfInBounds_toArray, List.set_cons_zero, List.set_cons_succ, i64_w, i32_w]
                        rfl
                      refine pure_ (i := 4) (N := some 35) (v := ?_) (a' := ?_) #[true, true, true, true, true, false, false, false, false, false, false, false, false, false, false, false, false, false, false, false, false, false] rfl rfl (any_of HT_.out (by kernel_rfl)) (fun _ _ _ h => h) (Or.inl ⟨by rfl, ?_⟩) ?_ ?_
                      rotate_left
                      · intro w'
                        go_simp
                        with_reducible rfl
                      rotate_left
                      · simp only [Act.put, List.setIfInBounds_toArray, List.set_cons_zero, List.set_cons_succ, i64_w, i32_w]
                        rfl
                      refine pure_ (i := 5) (N := some 36) (v := ?_) (a' := ?_) #[true, true, true, true, true, true, false, false, false, false, false, false, false, false, false, false, false, false, false, false, false, false] rfl rfl (any_of HT_.out (by kernel_rfl)) (fun _ _ _ h => h) (Or.inl ⟨by rfl, ?_⟩) ?_ ?_
                      rotate_left
                      · intro w'
                        go_simp
                        with_reducible rfl
                      rotate_left
                      · simp only [Act.put, List.setIfInBounds_toArray, List.set_cons_zero, List.set_cons_succ, i64_w, i32_w]
                        rfl
                      refine pure_ (i := 6) (N := some 37) (v := ?_) (a' := ?_) #[true, true, true, true, true, true, true, false, false, false, false, false, false, false, false, false, false, false, false, false, false, false] rfl rfl (any_of HT_.out (by kernel_rfl)) (fun _ _ _ h => h) (Or.inl ⟨by rfl, ?_⟩) ?_ ?_
                      rotate_left
                      · intro w'
                        go_simp
                        with_reducible rfl
                      rotate_left
                      · simp only [Act.put, List.setIfInBounds_toArray, List.set_cons_zero, List.set_cons_succ, i64_w, i32_w]
                        rfl
                      refine pure_ (i := 7) (N := some 38) (v := ?_) (a' := ?_) #[true, true, true, true, true, true, true, true, false, false, false, false, false, false, false, false, false, false, false, false, false, false] rfl rfl (any_of HT_.out (by kernel_rfl)) (fun _ _ _ h => h) (Or.inl ⟨by rfl, ?_⟩) ?_ ?_
                      rotate_left
                      · intro w'
                        go_simp
                        with_reducible rfl
                      rotate_left
                      · simp only [Act.put, List.setIfInBounds_toArray, List.set_cons_zero, List.set_cons_succ, i64_w, i32_w]
                        rfl
                      refine pure_ (i := 8) (N := some 39) (v := undef) (a' := ?_) #[true, true, true, true, true, true, true, true, true, false, false, false, false, false, false, false, false, false, false, false, false, false] rfl rfl (any_of HT_.out (by kernel_rfl)) (fun _ _ _ h => h) (Or.inr ⟨by rfl, rfl⟩) ?_ ?_
                      rotate_left
                      · simp only [Act.put, List.setIfInBounds_toArray, List.set_cons_zero, List.set_cons_succ, i64_w, i32_w]
                        rfl
                      refine pure_ (i := 9) (N := some 40) (v := undef) (a' := ?_) #[true, true, true, true, true, true, true, true, true, true, false, false, false, false, false, false, false, false, false, false, false, false] rfl rfl (any_of HT_.out (by kernel_rfl)) (fun _ _ _ h => h) (Or.inr ⟨by rfl, rfl⟩) ?_ ?_
                      rotate_left
                      · simp only [Act.put, List.setIfInBounds_toArray, List.set_cons_zero, List.set_cons_succ, i64_w, i32_w]
                        rfl
                      refine pure_ (i := 10) (N := some 41) (v := undef) (a' := ?_) #[true, true, true, true, true, true, true, true, true, true, true, false, false, false, false, false, false, false, false, false, false, false] rfl rfl (any_of HT_.out (by kernel_rfl)) (fun _ _ _ h => h) (Or.inr ⟨by rfl, rfl⟩) ?_ ?_
                      rotate_left
                      · simp only [Act.put, List.setIfInBounds_toArray, List.set_cons_zero, List.set_cons_succ, i64_w, i32_w]
                        rfl
                      refine pure_ (i := 11) (N := some 42) (v := undef) (a' := ?_) #[true, true, true, true, true, true, true, true, true, true, true, true, false, false, false, false, false, false, false, false, false, false] rfl rfl (any_of HT_.out (by kernel_rfl)) (fun _ _ _ h => h) (Or.inr ⟨by rfl, rfl⟩) ?_ ?_
                      rotate_left
                      · simp only [Act.put, List.setIfInBounds_toArray, List.set_cons_zero, List.set_cons_succ, i64_w, i32_w]
                        rfl
                      refine pure_ (i := 12) (N := some 43) (v := undef) (a' := ?_) #[true, true, true, true, true, true, true, true, true, true, true, true, true, false, false, false, false, false, false, false, false, false] rfl rfl (any_of HT_.out (by kernel_rfl)) (fun _ _ _ h => h) (Or.inr ⟨by rfl, rfl⟩) ?_ ?_
                      rotate_left
                      · simp only [Act.put, List.setIfInBounds_toArray, List.set_cons_zero, List.set_cons_succ, i64_w, i32_w]
                        rfl
                      refine pure_ (i := 13) (N := some 44) (v := undef) (a' := ?_) #[true, true, true, true, true, true, true, true, true, true, true, true, true, true, false, false, false, false, false, false, false, false] rfl rfl (any_of HT_.out (by kernel_rfl)) (fun _ _ _ h => h) (Or.inr ⟨by rfl, rfl⟩) ?_ ?_
                      rotate_left
                      · simp only [Act.put, List.setIfInBounds_toArray, List.set_cons_zero, List.set_cons_succ, i64_w, i32_w]
                        rfl
                      refine pure_ (i := 14) (N := some 45) (v := undef) (a' := ?_) #[true, true, true, true, true, true, true, true, true, true, true, true, true, true, true, false, false, false, false, false, false, false] rfl rfl (any_of HT_.out (by kernel_rfl)) (fun _ _ _ h => h) (Or.inr ⟨by rfl, rfl⟩) ?_ ?_
                      rotate_left
                      · simp only [Act.put, List.setIfInBounds_toArray, List.set_cons_zero, List.set_cons_succ, i64_w, i32_w]
                        rfl
                      refine pure_ (i := 15) (N := some 46) (v := undef) (a' := ?_) #[true, true, true, true, true, true, true, true, true, true, true, true, true, true, true, true, false, false, false, false, false, false] rfl rfl (any_of HT_.out (by kernel_rfl)) (fun _ _ _ h => h) (Or.inr ⟨by rfl, rfl⟩) ?_ ?_
                      rotate_left
                      · simp only [Act.put, List.setIfInBounds_toArray, List.set_cons_zero, List.set_cons_succ, i64_w, i32_w]
                        rfl
                      refine pure_ (i := 16) (N := some 47) (v := undef) (a' := ?_) #[true, true, true, true, true, true, true, true, true, true, true, true, true, true, true, true, true, false, false, false, false, false] rfl rfl (any_of HT_.out (by kernel_rfl)) (fun _ _ _ h => h) (Or.inr ⟨by rfl, rfl⟩) ?_ ?_
                      rotate_left
                      · simp only [Act.put, List.setIfInBounds_toArray, List.set_cons_zero, List.set_cons_succ, i64_w, i32_w]
                        rfl
                      refine pure_ (i := 17) (N := some 48) (v := undef) (a' := ?_) #[true, true, true, true, true, true, true, true, true, true, true, true, true, true, true, true, true, true, false, false, false, false] rfl rfl (any_of HT_.out (by kernel_rfl)) (fun _ _ _ h => h) (Or.inr ⟨by rfl, rfl⟩) ?_ ?_
                      rotate_left
                      · simp only [Act.put, List.setIfInBounds_toArray, List.set_cons_zero, List.set_cons_succ, i64_w, i32_w]
                        rfl
                      refine pure_ (i := 18) (N := some 49) (v := undef) (a' := ?_) #[true, true, true, true, true, true, true, true, true, true, true, true, true, true, true, true, true, true, true, false, false, false] rfl rfl (any_of HT_.out (by kernel_rfl)) (fun _ _ _ h => h) (Or.inr ⟨by rfl, rfl⟩) ?_ ?_
                      rotate_left
                      · simp only [Act.put, List.setIfInBounds_toArray, List.set_cons_zero, List.set_cons_succ, i64_w, i32_w]
                        rfl
                      refine pure_ (i := 19) (N := some 50) (v := undef) (a' := ?_) #[true, true, true, true, true, true, true, true, true, true, true, true, true, true, true, true, true, true, true, true, false, false] rfl rfl (any_of HT_.out (by kernel_rfl)) (fun _ _ _ h => h) (Or.inr ⟨by rfl, rfl⟩) ?_ ?_
                      rotate_left
                      · simp only [Act.put, List.setIfInBounds_toArray, List.set_cons_zero, List.set_cons_succ, i64_w, i32_w]
                        rfl
                      refine pure_ (i := 20) (N := some 51) (v := ?_) (a' := ?_) #[true, true, true, true, true, true, true, true, true, true, true, true, true, true, true, true, true, true, true, true, true, false] rfl rfl (any_of HT_.out (by kernel_rfl)) (fun _ _ _ h => h) (Or.inl ⟨by rfl, ?_⟩) ?_ ?_
                      rotate_left
                      · intro w'
                        go_simp
                        with_reducible rfl
                      rotate_left
                      · simp only [Act.put, List.setIfInBounds_toArray, List.set_cons_zero, List.set_cons_succ, i64_w, i32_w]
                        rfl
                      refine pure_ (i := 21) (N := some 52) (v := ?_) (a' := ?_) #[true, true, true, true, true, true, true, true, true, true, true, true, true, true, true, true, true, true, true, true, true, true] rfl rfl (any_of HT_.out (by kernel_rfl)) (fun _ _ _ h => h) (Or.inl ⟨by rfl, ?_⟩) ?_ ?_
                      rotate_left
                      · intro w'
                        go_simp
                        with_reducible rfl
                      rotate_left
                      · simp only [Act.put, List.setIfInBounds_toArray, List.set_cons_zero, List.set_cons_succ, i64_w, i32_w]
                        rfl
                      refine done_ (done_of HT_.out (by kernel_rfl)) ?_
                      try go_wp2
                      go_meet
                      case rel => exact ⟨_, (false), (by first | rfl | (simp; done) | (simp [*]; done)), H', ⟨by have := HJ1.out; have := HK2.out; first | omega | exact Nat.le_refl _⟩, ⟨by (with_reducible repeat (first | refine blk_drewN ?_ _ | refine blk_drew ?_ | refine blk_alloc ?_ _)); exact BK179.out⟩, ⟨by (with_reducible repeat (first | refine blk_drewN ?_ _ | refine blk_drew ?_ | refine blk_alloc ?_ _)); exact BK181.out⟩, ⟨by repeat (first | (with_reducible first | exact HB.out | apply below_alloc | apply pw_below_drewN | apply below_drew1 | refine below_set ?_ GE179.out | refine below_set ?_ GE181.out) | exact HB.out)⟩⟩
                  · replace c18 := Bool.eq_false_iff.mpr c18
                    subst c18
                    have H1 : (spec_ValidTxn.j2 k2 x3_2 true a0_0 l0_1 ((rd_T66 l0_1 x3_2).f0) ((rd_T66 l0_1 x3_2).f1.f0) ((rd_T66 l0_1 x3_2).f1.f1) ((rd_T66 l0_1 x3_2).f1.f2) ((rd_T66 l0_1 x3_2).f1.f3) ((rd_T66 l0_1 x3_2).f1.f4) ((rd_T66 l0_1 x3_2).f1.f5) ((rd_T66 l0_1 x3_2).f1.f6)) = some r := by rw [if_neg (show ¬ (false = true) by decide)] at H; exact H
                    clear H
                    have H := H1
                    clear H1
                    have H' := Aside0.mk H
                    clear H
                    try go_wp2
                    have n0_ : Aside0 (((((((((w14.setCell ⟨gb181, 0, none⟩ (.bool ((rd_T66 l0_1 x3_2).f0))).setCell ⟨gb181, 1, none⟩ (.string ((rd_T66 l0_1 x3_2).f1.f0))).setCell ⟨gb181, 2, none⟩ (.string ((rd_T66 l0_1 x3_2).f1.f1))).setCell ⟨gb181, 3, none⟩ (.int .i64 ((rd_T66 l0_1 x3_2).f1.f2))).setCell ⟨gb181, 4, none⟩ (.int .i64 ((rd_T66 l0_1 x3_2).f1.f3))).setCell ⟨gb181, 5, none⟩ (.int .i64 ((rd_T66 l0_1 x3_2).f1.f4))).setCell ⟨gb181, 6, none⟩ (.int .i64 ((rd_T66 l0_1 x3_2).f1.f5))).setCell ⟨gb181, 7, none⟩ (.int .i64 ((rd_T66 l0_1 x3_2).f1.f6))).heap[gb179]? = some (.cells #[.int .i64 a0_0, .slice (some ad180) l0_1.length c0_1] 41 (0, 0))) := ⟨by (with_reducible repeat (first | refine blk_drewN ?_ _ | refine blk_drew ?_ | refine blk_alloc ?_ _)); refine blk_far ?_ NB179_181.out _; (with_reducible repeat (first | refine blk_drewN ?_ _ | refine blk_drew ?_ | refine blk_alloc ?_ _)); refine blk_far ?_ NB179_181.out _; (with_reducible repeat (first | refine blk_drewN ?_ _ | refine blk_drew ?_ | refine blk_alloc ?_ _)); refine blk_far ?_ NB179_181.out _; (with_reducible repeat (first | refine blk_drewN ?_ _ | refine blk_drew ?_ | refine blk_alloc ?_ _)); refine blk_far ?_ NB179_181.out _; (with_reducible repeat (first | refine blk_drewN ?_ _ | refine blk_drew ?_ | refine blk_alloc ?_ _)); refine blk_far ?_ NB179_181.out _; (with_reducible repeat (first | refine blk_drewN ?_ _ | refine blk_drew ?_ | refine blk_alloc ?_ _)); refine blk_far ?_ NB179_181.out _; (with_reducible repeat (first | refine blk_drewN ?_ _ | refine blk_drew ?_ | refine blk_alloc ?_ _)); refine blk_far ?_ NB179_181.out _; (with_reducible repeat (first | refine blk_drewN ?_ _ | refine blk_drew ?_ | refine blk_alloc ?_ _)); refine blk_far ?_ NB179_181.out _; (with_reducible repeat (first | refine blk_drewN ?_ _ | refine blk_drew ?_ | refine blk_alloc ?_ _)); exact BK179.out⟩
                    have n1_ : Aside0 (((((((((w14.setCell ⟨gb181, 0, none⟩ (.bool ((rd_T66 l0_1 x3_2).f0))).setCell ⟨gb181, 1, none⟩ (.string ((rd_T66 l0_1 x3_2).f1.f0))).setCell ⟨gb181, 2, none⟩ (.string ((rd_T66 l0_1 x3_2).f1.f1))).setCell ⟨gb181, 3, none⟩ (.int .i64 ((rd_T66 l0_1 x3_2).f1.f2))).setCell ⟨gb181, 4, none⟩ (.int .i64 ((rd_T66 l0_1 x3_2).f1.f3))).setCell ⟨gb181, 5, none⟩ (.int .i64 ((rd_T66 l0_1 x3_2).f1.f4))).setCell ⟨gb181, 6, none⟩ (.int .i64 ((rd_T66 l0_1 x3_2).f1.f5))).setCell ⟨gb181, 7, none⟩ (.int .i64 ((rd_T66 l0_1 x3_2).f1.f6))).heap[gb181]? = some (.cells #[.bool ((rd_T66 l0_1 x3_2).f0), .string ((rd_T66 l0_1 x3_2).f1.f0), .string ((rd_T66 l0_1 x3_2).f1.f1), .int .i64 ((rd_T66 l0_1 x3_2).f1.f2), .int .i64 ((rd_T66 l0_1 x3_2).f1.f3), .int .i64 ((rd_T66 l0_1 x3_2).f1.f4), .int .i64 ((rd_T66 l0_1 x3_2).f1.f5), .int .i64 ((rd_T66 l0_1 x3_2).f1.f6)] 66 (0, 0))) := ⟨by (with_reducible repeat (first | refine blk_drewN ?_ _ | refine blk_drew ?_ | refine blk_alloc ?_ _)); refine blk_put (cs := #[.bool ((rd_T66 l0_1 x3_2).f0), .string ((rd_T66 l0_1 x3_2).f1.f0), .string ((rd_T66 l0_1 x3_2).f1.f1), .int .i64 ((rd_T66 l0_1 x3_2).f1.f2), .int .i64 ((rd_T66 l0_1 x3_2).f1.f3), .int .i64 ((rd_T66 l0_1 x3_2).f1.f4), .int .i64 ((rd_T66 l0_1 x3_2).f1.f5), .int .i64 0]) ?_ 7 _ rfl; (with_reducible repeat (first | refine blk_drewN ?_ _ | refine blk_drew ?_ | refine blk_alloc ?_ _)); refine blk_put (cs := #[.bool ((rd_T66 l0_1 x3_2).f0), .string ((rd_T66 l0_1 x3_2).f1.f0), .string ((rd_T66 l0_1 x3_2).f1.f1), .int .i64 ((rd_T66 l0_1 x3_2).f1.f2), .int .i64 ((rd_T66 l0_1 x3_2).f1.f3), .int .i64 ((rd_T66 l0_1 x3_2).f1.f4), .int .i64 0, .int .i64 0]) ?_ 6 _ rfl; (with_reducible repeat (first | refine blk_drewN ?_ _ | refine blk_drew ?_ | refine blk_alloc ?_ _)); refine blk_put (cs := #[.bool ((rd_T66 l0_1 x3_2).f0), .string ((rd_T66 l0_1 x3_2).f1.f0), .string ((rd_T66 l0_1 x3_2).f1.f1), .int .i64 ((rd_T66 l0_1 x3_2).f1.f2), .int .i64 ((rd_T66 l0_1 x3_2).f1.f3), .int .i64 0, .int .i64 0, .int .i64 0]) ?_ 5 _ rfl; (with_reducible repeat (first | refine blk_drewN ?_ _ | refine blk_drew ?_ | refine blk_alloc ?_ _)); refine blk_put (cs := #[.bool ((rd_T66 l0_1 x3_2).f0), .string ((rd_T66 l0_1 x3_2).f1.f0), .string ((rd_T66 l0_1 x3_2).f1.f1), .int .i64 ((rd_T66 l0_1 x3_2).f1.f2), .int .i64 0, .int .i64 0, .int .i64 0, .int .i64 0]) ?_ 4 _ rfl; (with_reducible repeat (first | refine blk_drewN ?_ _ | refine blk_drew ?_ | refine blk_alloc ?_ _)); refine blk_put (cs := #[.bool ((rd_T66 l0_1 x3_2).f0), .string ((rd_T66 l0_1 x3_2).f1.f0), .string ((rd_T66 l0_1 x3_2).f1.f1), .int .i64 0, .int .i64 0, .int .i64 0, .int .i64 0, .int .i64 0]) ?_ 3 _ rfl; (with_reducible repeat (first | refine blk_drewN ?_ _ | refine blk_drew ?_ | refine blk_alloc ?_ _)); refine blk_put (cs := #[.bool ((rd_T66 l0_1 x3_2).f0), .string ((rd_T66 l0_1 x3_2).f1.f0), .string (⟨#[]⟩ : ByteArray), .int .i64 0, .int .i64 0, .int .i64 0, .int .i64 0, .int .i64 0]) ?_ 2 _ rfl; (with_reducible repeat (first | refine blk_drewN ?_ _ | refine blk_drew ?_ | refine blk_alloc ?_ _)); refine blk_put (cs := #[.bool ((rd_T66 l0_1 x3_2).f0), .string (⟨#[]⟩ : ByteArray), .string (⟨#[]⟩ : ByteArray), .int .i64 0, .int .i64 0, .int .i64 0, .int .i64 0, .int .i64 0]) ?_ 1 _ rfl; (with_reducible repeat (first | refine blk_drewN ?_ _ | refine blk_drew ?_ | refine blk_alloc ?_ _)); refine blk_put (cs := #[.bool false, .string (⟨#[]⟩ : ByteArray), .string (⟨#[]⟩ : ByteArray), .int .i64 0, .int .i64 0, .int .i64 0, .int .i64 0, .int .i64 0]) ?_ 0 _ rfl; (with_reducible repeat (first | refine blk_drewN ?_ _ | refine blk_drew ?_ | refine blk_alloc ?_ _)); exact BK181.out⟩
                    have n2_ : Aside0 (Below w.heap.size w ((((((((w14.setCell ⟨gb181, 0, none⟩ (.bool ((rd_T66 l0_1 x3_2).f0))).setCell ⟨gb181, 1, none⟩ (.string ((rd_T66 l0_1 x3_2).f1.f0))).setCell ⟨gb181, 2, none⟩ (.string ((rd_T66 l0_1 x3_2).f1.f1))).setCell ⟨gb181, 3, none⟩ (.int .i64 ((rd_T66 l0_1 x3_2).f1.f2))).setCell ⟨gb181, 4, none⟩ (.int .i64 ((rd_T66 l0_1 x3_2).f1.f3))).setCell ⟨gb181, 5, none⟩ (.int .i64 ((rd_T66 l0_1 x3_2).f1.f4))).setCell ⟨gb181, 6, none⟩ (.int .i64 ((rd_T66 l0_1 x3_2).f1.f5))).setCell ⟨gb181, 7, none⟩ (.int .i64 ((rd_T66 l0_1 x3_2).f1.f6)))) := ⟨by repeat (first | (with_reducible first | exact HB.out | apply below_alloc | apply pw_below_drewN | apply below_drew1 | refine below_set ?_ GE179.out | refine below_set ?_ GE181.out) | exact HB.out)⟩
                    (try clear BK179)
                    (try clear BK181)
                    (try clear HB)
                    generalize ((((((((w14.setCell ⟨gb181, 0, none⟩ (.bool ((rd_T66 l0_1 x3_2).f0))).setCell ⟨gb181, 1, none⟩ (.string ((rd_T66 l0_1 x3_2).f1.f0))).setCell ⟨gb181, 2, none⟩ (.string ((rd_T66 l0_1 x3_2).f1.f1))).setCell ⟨gb181, 3, none⟩ (.int .i64 ((rd_T66 l0_1 x3_2).f1.f2))).setCell ⟨gb181, 4, none⟩ (.int .i64 ((rd_T66 l0_1 x3_2).f1.f3))).setCell ⟨gb181, 5, none⟩ (.int .i64 ((rd_T66 l0_1 x3_2).f1.f4))).setCell ⟨gb181, 6, none⟩ (.int .i64 ((rd_T66 l0_1 x3_2).f1.f5))).setCell ⟨gb181, 7, none⟩ (.int .i64 ((rd_T66 l0_1 x3_2).f1.f6))) = w29 at n0_ n1_ n2_ ⊢
                    have BK179 := n0_
                    have BK181 := n1_
                    have HB := n2_
                    clear n0_ n1_ n2_
                    have n0_ := Aside0.mk (blk_drew BK179.out)
                    have n1_ := Aside0.mk (blk_drew BK181.out)
                    have n2_ := Aside0.mk (below_drew1 HB.out)
                    clear BK179
                    clear BK181
                    clear HB
                    have BK179 := n0_
                    have BK181 := n1_
                    have HB := n2_
                    clear n0_ n1_ n2_
                    refine start_ (n := 22) (S := fun w' => w'.cell? ⟨gb181, 0, none⟩ = some (.bool ((rd_T66 l0_1 x3_2).f0)) ∧ w'.cell? ⟨gb181, 1, none⟩ = some (.string ((rd_T66 l0_1 x3_2).f1.f0)) ∧ w'.cell? ⟨gb181, 2, none⟩ = some (.string ((rd_T66 l0_1 x3_2).f1.f1)) ∧ w'.cell? ⟨gb181, 3, none⟩ = some (.int .i64 ((rd_T66 l0_1 x3_2).f1.f2)) ∧ w'.cell? ⟨gb181, 4, none⟩ = some (.int .i64 ((rd_T66 l0_1 x3_2).f1.f3)) ∧ w'.cell? ⟨gb181, 5, none⟩ = some (.int .i64 ((rd_T66 l0_1 x3_2).f1.f4)) ∧ w'.cell? ⟨gb181, 6, none⟩ = some (.int .i64 ((rd_T66 l0_1 x3_2).f1.f5)) ∧ w'.cell? ⟨gb181, 7, none⟩ = some (.int .i64 ((rd_T66 l0_1 x3_2).f1.f6))) (ds := []) #[false, false, false, false, false, false, false, false, false, false, false, false, false, false, false, false, false, false, false, false, false, false] (by kernel_rfl) rfl rfl ⟨(blk_cell BK181.out 0).trans rfl, (blk_cell BK181.out 1).trans rfl, (blk_cell BK181.out 2).trans rfl, (blk_cell BK181.out 3).trans rfl, (blk_cell BK181.out 4).trans rfl, (blk_cell BK181.out 5).trans rfl, (blk_cell BK181.out 6).trans rfl, (blk_cell BK181.out 7).trans rfl⟩ (fun hHeld => ?_); refine with_tabW spec_ValidTxn.tab7 spec_ValidTxn.bits7 (fun HT_ HW_ => ?_)
                    generalize w29.drew = w30 at BK179 BK181 HB hHeld ⊢
                    refine pure_ (i := 0) (N := some 31) (v := ?_) (a' := ?_) #[true, false, false, false, false, false, false, false, false, false, false, false, false, false, false, false, false, false, false, false, false, false] rfl rfl (any_of HT_.out (by kernel_rfl)) (fun _ _ _ h => h) (Or.inl ⟨by rfl, ?_⟩) ?_ ?_
                    rotate_left
                    · intro w'
                      go_simp
                      with_reducible rfl
                    rotate_left
                    · simp only [Act.put, List.setIfInBounds_toArray, List.set_cons_zero, List.set_cons_succ, i64_w, i32_w]
                      rfl
                    refine take_ (i := 1) (N := some 32) (v := ?_) (a' := ?_) #[true, true, false, false, false, false, false, false, false, false, false, false, false, false, false, false, false, false, false, false, false, false] rfl rfl (take_ofW HT_.out HW_.out (by kernel_rfl)) (fun _ _ _ h => h) (Or.inl ⟨by rfl, ?_⟩) hHeld ?_ ?_
                    rotate_left
                    · rintro w' ⟨s0, s1, s2, s3, s4, s5, s6, s7⟩
                      go_simp
                      with_reducible rfl
                    rotate_left
                    · simp only [Act.put, List.setIfInBounds_toArray, List.set_cons_zero, List.set_cons_succ, i64_w, i32_w]
                      rfl
                    refine one_ (i := 2) (N := some 33) #[true, true, true, false, false, false, false, false, false, false, false, false, false, false, false, false, false, false, false, false, false, false] rfl rfl (one_of HT_.out (by kernel_rfl)) (by decide) (fun K hK => ?_)
                    refine goes_ Tryd.func40 (by kernel_rfl) rfl #[.agg #[.string ((rd_T66 l0_1 x3_2).f1.f0), .string ((rd_T66 l0_1 x3_2).f1.f1), .int .i64 ((rd_T66 l0_1 x3_2).f1.f2), .int .i64 ((rd_T66 l0_1 x3_2).f1.f3), .int .i64 ((rd_T66 l0_1 x3_2).f1.f4), .int .i64 ((rd_T66 l0_1 x3_2).f1.f5), .int .i64 ((rd_T66 l0_1 x3_2).f1.f6)]] (by rfl) rfl rfl (by (try simp only [List.map_toArray, List.map_cons, List.map_nil]); first | done | rfl | (simp only [List.length_drop, List.length_take]; rfl)) ?_
                    with_reducible refine (spec_l3ValidNode.calls k2 ((rd_T66 l0_1 x3_2).f1.f0) ((rd_T66 l0_1 x3_2).f1.f1) ((rd_T66 l0_1 x3_2).f1.f2) ((rd_T66 l0_1 x3_2).f1.f3) ((rd_T66 l0_1 x3_2).f1.f4) ((rd_T66 l0_1 x3_2).f1.f5) ((rd_T66 l0_1 x3_2).f1.f6) false _ A17.out).mono ?_
                    rintro e w31 ⟨rfl, hb⟩
                    refine ⟨_, rfl, ?_⟩
                    have n0_ := Aside0.mk (blk_below (g := gb179) (o := .cells #[.int .i64 a0_0, .slice (some ad180) l0_1.length c0_1] 41 (0, 0)) (by (with_reducible repeat (first | refine blk_drewN ?_ _ | refine blk_drew ?_ | refine blk_alloc ?_ _)); exact BK179.out) hb)
                    have n1_ := Aside0.mk (blk_below (g := gb181) (o := .cells #[.bool ((rd_T66 l0_1 x3_2).f0), .string ((rd_T66 l0_1 x3_2).f1.f0), .string ((rd_T66 l0_1 x3_2).f1.f1), .int .i64 ((rd_T66 l0_1 x3_2).f1.f2), .int .i64 ((rd_T66 l0_1 x3_2).f1.f3), .int .i64 ((rd_T66 l0_1 x3_2).f1.f4), .int .i64 ((rd_T66 l0_1 x3_2).f1.f5), .int .i64 ((rd_T66 l0_1 x3_2).f1.f6)] 66 (0, 0)) (by (with_reducible repeat (first | refine blk_drewN ?_ _ | refine blk_drew ?_ | refine blk_alloc ?_ _)); exact BK181.out) hb)
                    have n2_ := Aside0.mk (below_step (by repeat (first | (with_reducible first | exact HB.out | apply below_alloc | apply pw_below_drewN | apply below_drew1 | refine below_set ?_ GE179.out | refine below_set ?_ GE181.out) | exact HB.out)) hb)
                    clear BK179
                    clear BK181
                    clear HB
                    have BK179 := n0_
                    have BK181 := n1_
                    have HB := n2_
                    clear n0_ n1_ n2_
                    (try clear hb)
                    (try clear hb2)
                    (try clear hk)
                    (try clear hi)
                    refine hK.out _ _ ⟨(blk_cell BK181.out 0).trans rfl, (blk_cell BK181.out 1).trans rfl, (blk_cell BK181.out 2).trans rfl, (blk_cell BK181.out 3).trans rfl, (blk_cell BK181.out 4).trans rfl, (blk_cell BK181.out 5).trans rfl, (blk_cell BK181.out 6).trans rfl, (blk_cell BK181.out 7).trans rfl⟩ (fun hHeld => ?_)
                    clear hK K
                    refine norm_ (a' := ?_) ?_ ?_
                    rotate_left
                    · show Act.put _ (some 33) _ = _
                      simp only [Act.put, List.setIfInBounds_toArray, List.set_cons_zero, List.set_cons_succ, i64_w, i32_w]
                      rfl
                    refine pure_ (i := 3) (N := some 34) (v := ?_) (a' := ?_) #[true, true, true, true, false, false, false, false, false, false, false, false, false, false, false, false, false, false, false, false, false, false] rfl rfl (any_of HT_.out (by kernel_rfl)) (fun _ _ _ h => h) (Or.inl ⟨by rfl, ?_⟩) ?_ ?_
                    rotate_left
                    · intro w'
                      go_simp
                      with_reducible rfl
                    rotate_left
                    · simp only [Act.put, List.setIfInBounds_toArray, List.set_cons_zero, List.set_cons_succ, i64_w, i32_w]
                      rfl
                    refine pure_ (i := 4) (N := some 35) (v := ?_) (a' := ?_) #[true, true, true, true, true, false, false, false, false, false, false, false, false, false, false, false, false, false, false, false, false, false] rfl rfl (any_of HT_.out (by kernel_rfl)) (fun _ _ _ h => h) (Or.inl ⟨by rfl, ?_⟩) ?_ ?_
                    rotate_left
                    · intro w'
                      go_simp
                      with_reducible rfl
                    rotate_left
                    · simp only [Act.put, List.setIfInBounds_toArray, List.set_cons_zero, List.set_cons_succ, i64_w, i32_w]
                      rfl
                    refine pure_ (i := 5) (N := some 36) (v := undef) (a' := ?_) #[true, true, true, true, true, true, false, false, false, false, false, false, false, false, false, false, false, false, false, false, false, false] rfl rfl (any_of HT_.out (by kernel_rfl)) (fun _ _ _ h => h) (Or.inr ⟨by rfl, rfl⟩) ?_ ?_
                    rotate_left
                    · simp only [Act.put, List.setIfInBounds_toArray, List.set_cons_zero, List.set_cons_succ, i64_w, i32_w]
                      rfl
                    refine pure_ (i := 6) (N := some 37) (v := undef) (a' := ?_) #[true, true, true, true, true, true, true, false, false, false, false, false, false, false, false, false, false, false, false, false, false, false] rfl rfl (any_of HT_.out (by kernel_rfl)) (fun _ _ _ h => h) (Or.inr ⟨by rfl, rfl⟩) ?_ ?_
                    rotate_left
                    · simp only [Act.put, List.setIfInBounds_toArray, List.set_cons_zero, List.set_cons_succ, i64_w, i32_w]
                      rfl
                    refine pure_ (i := 7) (N := some 38) (v := undef) (a' := ?_) #[true, true, true, true, true, true, true, true, false, false, false, false, false, false, false, false, false, false, false, false, false, false] rfl rfl (any_of HT_.out (by kernel_rfl)) (fun _ _ _ h => h) (Or.inr ⟨by rfl, rfl⟩) ?_ ?_
                    rotate_left
                    · simp only [Act.put, List.setIfInBounds_toArray, List.set_cons_zero, List.set_cons_succ, i64_w, i32_w]
                      rfl
                    refine pure_ (i := 8) (N := some 39) (v := undef) (a' := ?_) #[true, true, true, true, true, true, true, true, true, false, false, false, false, false, false, false, false, false, false, false, false, false] rfl rfl (any_of HT_.out (by kernel_rfl)) (fun _ _ _ h => h) (Or.inr ⟨by rfl, rfl⟩) ?_ ?_
                    rotate_left
                    · simp only [Act.put, List.setIfInBounds_toArray, List.set_cons_zero, List.set_cons_succ, i64_w, i32_w]
                      rfl
                    refine pure_ (i := 9) (N := some 40) (v := undef) (a' := ?_) #[true, true, true, true, true, true, true, true, true, true, false, false, false, false, false, false, false, false, false, false, false, false] rfl rfl (any_of HT_.out (by kernel_rfl)) (fun _ _ _ h => h) (Or.inr ⟨by rfl, rfl⟩) ?_ ?_
                    rotate_left
                    · simp only [Act.put, List.setIfInBounds_toArray, List.set_cons_zero, List.set_cons_succ, i64_w, i32_w]
                      rfl
                    refine pure_ (i := 10) (N := some 41) (v := undef) (a' := ?_) #[true, true, true, true, true, true, true, true, true, true, true, false, false, false, false, false, false, false, false, false, false, false] rfl rfl (any_of HT_.out (by kernel_rfl)) (fun _ _ _ h => h) (Or.inr ⟨by rfl, rfl⟩) ?_ ?_
                    rotate_left
                    · simp only [Act.put, List.setIfInBounds_toArray, List.set_cons_zero, List.set_cons_succ, i64_w, i32_w]
                      rfl
                    refine pure_ (i := 11) (N := some 42) (v := undef) (a' := ?_) #[true, true, true, true, true, true, true, true, true, true, true, true, false, false, false, false, false, false, false, false, false, false] rfl rfl (any_of HT_.out (by kernel_rfl)) (fun _ _ _ h => h) (Or.inr ⟨by rfl, rfl⟩) ?_ ?_
                    rotate_left
                    · simp only [Act.put, List.setIfInBounds_toArray, List.set_cons_zero, List.set_cons_succ, i64_w, i32_w]
                      rfl
                    refine pure_ (i := 12) (N := some 43) (v := undef) (a' := ?_) #[true, true, true, true, true, true, true, true, true, true, true, true, true, false, false, false, false, false, false, false, false, false] rfl rfl (any_of HT_.out (by kernel_rfl)) (fun _ _ _ h => h) (Or.inr ⟨by rfl, rfl⟩) ?_ ?_
                    rotate_left
                    · simp only [Act.put, List.setIfInBounds_toArray, List.set_cons_zero, List.set_cons_succ, i64_w, i32_w]
                      rfl
                    refine pure_ (i := 13) (N := some 44) (v := undef) (a' := ?_) #[true, true, true, true, true, true, true, true, true, true, true, true, true, true, false, false, false, false, false, false, false, false] rfl rfl (any_of HT_.out (by kernel_rfl)) (fun _ _ _ h => h) (Or.inr ⟨by rfl, rfl⟩) ?_ ?_
                    rotate_left
                    · simp only [Act.put, List.setIfInBounds_toArray, List.set_cons_zero, List.set_cons_succ, i64_w, i32_w]
                      rfl
                    refine pure_ (i := 14) (N := some 45) (v := undef) (a' := ?_) #[true, true, true, true, true, true, true, true, true, true, true, true, true, true, true, false, false, false, false, false, false, false] rfl rfl (any_of HT_.out (by kernel_rfl)) (fun _ _ _ h => h) (Or.inr ⟨by rfl, rfl⟩) ?_ ?_
                    rotate_left
                    · simp only [Act.put, List.setIfInBounds_toArray, List.set_cons_zero, List.set_cons_succ, i64_w, i32_w]
                      rfl
                    refine pure_ (i := 15) (N := some 46) (v := undef) (a' := ?_) #[true, true, true, true, true, true, true, true, true, true, true, true, true, true, true, true, false, false, false, false, false, false] rfl rfl (any_of HT_.out (by kernel_rfl)) (fun _ _ _ h => h) (Or.inr ⟨by rfl, rfl⟩) ?_ ?_
                    rotate_left
                    · simp only [Act.put, List.setIfInBounds_toArray, List.set_cons_zero, List.set_cons_succ, i64_w, i32_w]
                      rfl
                    refine pure_ (i := 16) (N := some 47) (v := undef) (a' := ?_) #[true, true, true, true, true, true, true, true, true, true, true, true, true, true, true, true, true, false, false, false, false, false] rfl rfl (any_of HT_.out (by kernel_rfl)) (fun _ _ _ h => h) (Or.inr ⟨by rfl, rfl⟩) ?_ ?_
                    rotate_left
                    · simp only [Act.put, List.setIfInBounds_toArray, List.set_cons_zero, List.set_cons_succ, i64_w, i32_w]
                      rfl
                    refine pure_ (i := 17) (N := some 48) (v := undef) (a' := ?_) #[true, true, true, true, true, true, true, true, true, true, true, true, true, true, true, true, true, true, false, false, false, false] rfl rfl (any_of HT_.out (by kernel_rfl)) (fun _ _ _ h => h) (Or.inr ⟨by rfl, rfl⟩) ?_ ?_
                    rotate_left
                    · simp only [Act.put, List.setIfInBounds_toArray, List.set_cons_zero, List.set_cons_succ, i64_w, i32_w]
                      rfl
                    refine pure_ (i := 18) (N := some 49) (v := undef) (a' := ?_) #[true, true, true, true, true, true, true, true, true, true, true, true, true, true, true, true, true, true, true, false, false, false] rfl rfl (any_of HT_.out (by kernel_rfl)) (fun _ _ _ h => h) (Or.inr ⟨by rfl, rfl⟩) ?_ ?_
                    rotate_left
                    · simp only [Act.put, List.setIfInBounds_toArray, List.set_cons_zero, List.set_cons_succ, i64_w, i32_w]
                      rfl
                    refine pure_ (i := 19) (N := some 50) (v := undef) (a' := ?_) #[true, true, true, true, true, true, true, true, true, true, true, true, true, true, true, true, true, true, true, true, false, false] rfl rfl (any_of HT_.out (by kernel_rfl)) (fun _ _ _ h => h) (Or.inr ⟨by rfl, rfl⟩) ?_ ?_
                    rotate_left
                    · simp only [Act.put, List.setIfInBounds_toArray, List.set_cons_zero, List.set_cons_succ, i64_w, i32_w]
                      rfl
                    refine pure_ (i := 20) (N := some 51) (v := undef) (a' := ?_) #[true, true, true, true, true, true, true, true, true, true, true, true, true, true, true, true, true, true, true, true, true, false] rfl rfl (any_of HT_.out (by kernel_rfl)) (fun _ _ _ h => h) (Or.inr ⟨by rfl, rfl⟩) ?_ ?_
                    rotate_left
                    · simp only [Act.put, List.setIfInBounds_toArray, List.set_cons_zero, List.set_cons_succ, i64_w, i32_w]
                      rfl
                    refine pure_ (i := 21) (N := some 52) (v := ?_) (a' := ?_) #[true, true, true, true, true, true, true, true, true, true, true, true, true, true, true, true, true, true, true, true, true, true] rfl rfl (any_of HT_.out (by kernel_rfl)) (fun _ _ _ h => h) (Or.inl ⟨by rfl, ?_⟩) ?_ ?_
                    rotate_left
                    · intro w'
                      go_simp
                      with_reducible rfl
                    rotate_left
                    · simp only [Act.put, List.setIfInBounds_toArray, List.set_cons_zero, List.set_cons_succ, i64_w, i32_w]
                      rfl
                    refine done_ (done_of HT_.out (by kernel_rfl)) ?_
                    try go_wp2
                    go_meet
                    case rel => exact ⟨_, (true), (by first | rfl | (simp; done) | (simp [*]; done)), H', ⟨by have := HJ1.out; have := HK2.out; first | omega | exact Nat.le_refl _⟩, ⟨by (with_reducible repeat (first | refine blk_drewN ?_ _ | refine blk_drew ?_ | refine blk_alloc ?_ _)); exact BK179.out⟩, ⟨by (with_reducible repeat (first | refine blk_drewN ?_ _ | refine blk_drew ?_ | refine blk_alloc ?_ _)); exact BK181.out⟩, ⟨by repeat (first | (with_reducible first | exact HB.out | apply below_alloc | apply pw_below_drewN | apply below_drew1 | refine below_set ?_ GE179.out | refine below_set ?_ GE181.out) | exact HB.out)⟩⟩
                case rest =>
                  clear HC12
                  try clear c1
                  try clear p1
                  try clear q1
                  try clear hx1
                  try clear c2
                  try clear p2
                  try clear c4
                  try clear c18
                  try clear p18
                  try clear q18
                  try clear hx18
                  try clear c19
                  try clear c19b0
                  try clear c21
                  try clear c22
                  try clear c22b0
                  try clear hx183_0
                  try clear hx183_1
                  try clear hx183_2
                  try clear hx183_3
                  try clear hx183_4
                  try clear hx183_5
                  try clear hx183_6
                  try clear hx183_7
                  try clear p183
                  try clear q183
                  obtain ⟨kq, x52_11, rfl, HA, HJ11, BK179, BK181, HB⟩ := hcut
                  cases kq with
                  | zero => exact absurd HA.out (by simp [spec_ValidTxn.j2])
                  | succ kj11 =>
                    have H := HA.out
                    clear HA
                    simp only [spec_ValidTxn.j2] at H
                    by_cases c32 : x52_11 = true
                    · subst c32
                      have H1 : (some false) = some r := by rw [if_pos rfl] at H; exact H
                      clear H
                      have H := H1
                      clear H1
                      obtain rfl := Option.some.inj H
                      go_wp2
                      go_ret
                      exact ⟨by first | rfl | (simp [errW_none, errW_some] <;> rfl) | (simp [*, errW_none, errW_some] <;> rfl), by repeat (first | (with_reducible first | exact HB.out | apply below_alloc | apply pw_below_drewN | apply below_drew1 | refine below_set ?_ GE179.out | refine below_set ?_ GE181.out) | exact HB.out)⟩
                    · replace c32 := Bool.eq_false_iff.mpr c32
                      subst c32
                      have H1 : (if ((rd_T66 l0_1 x3_2).f0) = true then (if (!(((rd_T66 l0_1 x3_2).f1.f1).toList == ([] : List UInt8)) || (!(((rd_T66 l0_1 x3_2).f1.f2) == 0) || (!(((rd_T66 l0_1 x3_2).f1.f3) == 0) || (!(((rd_T66 l0_1 x3_2).f1.f4) == 0) || (!(((rd_T66 l0_1 x3_2).f1.f5) == 0) || (!(((rd_T66 l0_1 x3_2).f1.f6) == 0))))))) = true then (some false) else (spec_ValidTxn.l0 kj11 (wrap64 (x3_2 + 1)) a0_0 l0_1)) else (spec_ValidTxn.l0 kj11 (wrap64 (x3_2 + 1)) a0_0 l0_1)) = some r := by rw [if_neg (show ¬ (false = true) by decide)] at H; exact H
                      clear H
                      have H := H1
                      clear H1
                      by_cases c33 : ((rd_T66 l0_1 x3_2).f0) = true
                      · rw [if_pos c33] at H
                        have c33b0 : ((rd_T66 l0_1 x3_2).f0) = true := c33
                        clear c33
                        by_cases c34 : (!(((rd_T66 l0_1 x3_2).f1.f1).toList == ([] : List UInt8)) || (!(((rd_T66 l0_1 x3_2).f1.f2) == 0) || (!(((rd_T66 l0_1 x3_2).f1.f3) == 0) || (!(((rd_T66 l0_1 x3_2).f1.f4) == 0) || (!(((rd_T66 l0_1 x3_2).f1.f5) == 0) || (!(((rd_T66 l0_1 x3_2).f1.f6) == 0))))))) = true
                        · rw [if_pos c34] at H
                          have c34b0 : (!(((rd_T66 l0_1 x3_2).f1.f1).toList).isEmpty || (!(((rd_T66 l0_1 x3_2).f1.f2) == 0) || (!(((rd_T66 l0_1 x3_2).f1.f3) == 0) || (!(((rd_T66 l0_1 x3_2).f1.f4) == 0) || (!(((rd_T66 l0_1 x3_2).f1.f5) == 0) || (!(((rd_T66 l0_1 x3_2).f1.f6) == 0))))))) = true := by simp only [← Go.Proofs.YtlpjpmfhkmddjaaDoorH.nil_isEmpty]; exact c34
                          clear c34
                          obtain rfl := Option.some.inj H
                          have hnb35 := NB181_179.out
                          have hnc35 := NB179_181.out
                          have hcz36_0 : wc.cell? ⟨gb181, 0, none⟩ = some (.bool ((rd_T66 l0_1 x3_2).f0)) := (blk_cell BK181.out 0).trans rfl
                          have hcz36_1 : wc.cell? ⟨gb181, 1, none⟩ = some (.string ((rd_T66 l0_1 x3_2).f1.f0)) := (blk_cell BK181.out 1).trans rfl
                          have hcz36_2 : wc.cell? ⟨gb181, 2, none⟩ = some (.string ((rd_T66 l0_1 x3_2).f1.f1)) := (blk_cell BK181.out 2).trans rfl
                          have hcz36_3 : wc.cell? ⟨gb181, 3, none⟩ = some (.int .i64 ((rd_T66 l0_1 x3_2).f1.f2)) := (blk_cell BK181.out 3).trans rfl
                          have hcz36_4 : wc.cell? ⟨gb181, 4, none⟩ = some (.int .i64 ((rd_T66 l0_1 x3_2).f1.f3)) := (blk_cell BK181.out 4).trans rfl
                          have hcz36_5 : wc.cell? ⟨gb181, 5, none⟩ = some (.int .i64 ((rd_T66 l0_1 x3_2).f1.f4)) := (blk_cell BK181.out 5).trans rfl
                          have hcz36_6 : wc.cell? ⟨gb181, 6, none⟩ = some (.int .i64 ((rd_T66 l0_1 x3_2).f1.f5)) := (blk_cell BK181.out 6).trans rfl
                          have hcz36_7 : wc.cell? ⟨gb181, 7, none⟩ = some (.int .i64 ((rd_T66 l0_1 x3_2).f1.f6)) := (blk_cell BK181.out 7).trans rfl
                          have hfz36_0 := blk_frozen BK181.out 0
                          have hfz36_1 := blk_frozen BK181.out 1
                          have hfz36_2 := blk_frozen BK181.out 2
                          have hfz36_3 := blk_frozen BK181.out 3
                          have hfz36_4 := blk_frozen BK181.out 4
                          have hfz36_5 := blk_frozen BK181.out 5
                          have hfz36_6 := blk_frozen BK181.out 6
                          have hfz36_7 := blk_frozen BK181.out 7
                          go_wp2
                          go_ret
                          exact ⟨by first | rfl | (simp [errW_none, errW_some] <;> rfl) | (simp [*, errW_none, errW_some] <;> rfl), by repeat (first | (with_reducible first | exact HB.out | apply below_alloc | apply pw_below_drewN | apply below_drew1 | refine below_set ?_ GE179.out | refine below_set ?_ GE181.out) | exact HB.out)⟩
                        · rw [if_neg c34] at H
                          have c34b0 : (!(((rd_T66 l0_1 x3_2).f1.f1).toList).isEmpty || (!(((rd_T66 l0_1 x3_2).f1.f2) == 0) || (!(((rd_T66 l0_1 x3_2).f1.f3) == 0) || (!(((rd_T66 l0_1 x3_2).f1.f4) == 0) || (!(((rd_T66 l0_1 x3_2).f1.f5) == 0) || (!(((rd_T66 l0_1 x3_2).f1.f6) == 0))))))) = false := by simp only [← Go.Proofs.YtlpjpmfhkmddjaaDoorH.nil_isEmpty]; simpa using c34
                          clear c34
                          have H' := Aside0.mk H
                          clear H
                          have hnb37 := NB181_179.out
                          have hnc37 := NB179_181.out
                          have hcz38_0 : wc.cell? ⟨gb181, 0, none⟩ = some (.bool ((rd_T66 l0_1 x3_2).f0)) := (blk_cell BK181.out 0).trans rfl
                          have hcz38_1 : wc.cell? ⟨gb181, 1, none⟩ = some (.string ((rd_T66 l0_1 x3_2).f1.f0)) := (blk_cell BK181.out 1).trans rfl
                          have hcz38_2 : wc.cell? ⟨gb181, 2, none⟩ = some (.string ((rd_T66 l0_1 x3_2).f1.f1)) := (blk_cell BK181.out 2).trans rfl
                          have hcz38_3 : wc.cell? ⟨gb181, 3, none⟩ = some (.int .i64 ((rd_T66 l0_1 x3_2).f1.f2)) := (blk_cell BK181.out 3).trans rfl
                          have hcz38_4 : wc.cell? ⟨gb181, 4, none⟩ = some (.int .i64 ((rd_T66 l0_1 x3_2).f1.f3)) := (blk_cell BK181.out 4).trans rfl
                          have hcz38_5 : wc.cell? ⟨gb181, 5, none⟩ = some (.int .i64 ((rd_T66 l0_1 x3_2).f1.f4)) := (blk_cell BK181.out 5).trans rfl
                          have hcz38_6 : wc.cell? ⟨gb181, 6, none⟩ = some (.int .i64 ((rd_T66 l0_1 x3_2).f1.f5)) := (blk_cell BK181.out 6).trans rfl
                          have hcz38_7 : wc.cell? ⟨gb181, 7, none⟩ = some (.int .i64 ((rd_T66 l0_1 x3_2).f1.f6)) := (blk_cell BK181.out 7).trans rfl
                          have hfz38_0 := blk_frozen BK181.out 0
                          have hfz38_1 := blk_frozen BK181.out 1
                          have hfz38_2 := blk_frozen BK181.out 2
                          have hfz38_3 := blk_frozen BK181.out 3
                          have hfz38_4 := blk_frozen BK181.out 4
                          have hfz38_5 := blk_frozen BK181.out 5
                          have hfz38_6 := blk_frozen BK181.out 6
                          have hfz38_7 := blk_frozen BK181.out 7
                          go_wp2
                          go_roundg kj11
                          case measure => have := HJ1.out; have := HK2.out; have := HJ11.out; omega
                          case rel => exact ⟨(wrap64 (x3_2 + 1)), (by first | rfl | (simp; done) | (simp [*]; done)), H', ⟨by have := HJ1.out; have := HK2.out; have := HJ11.out; omega⟩, ⟨by (with_reducible repeat (first | refine blk_drewN ?_ _ | refine blk_drew ?_ | refine blk_alloc ?_ _)); exact BK179.out⟩, ⟨by repeat (first | (with_reducible first | exact HB.out | apply below_alloc | apply pw_below_drewN | apply below_drew1 | refine below_set ?_ GE179.out | refine below_set ?_ GE181.out) | exact HB.out)⟩⟩
                      · rw [if_neg c33] at H
                        have c33b0 : ((rd_T66 l0_1 x3_2).f0) = false := by simpa using c33
                        clear c33
                        have H' := Aside0.mk H
                        clear H
                        have hnb39 := NB181_179.out
                        have hnc39 := NB179_181.out
                        have hcz40_0 : wc.cell? ⟨gb181, 0, none⟩ = some (.bool ((rd_T66 l0_1 x3_2).f0)) := (blk_cell BK181.out 0).trans rfl
                        have hcz40_1 : wc.cell? ⟨gb181, 1, none⟩ = some (.string ((rd_T66 l0_1 x3_2).f1.f0)) := (blk_cell BK181.out 1).trans rfl
                        have hcz40_2 : wc.cell? ⟨gb181, 2, none⟩ = some (.string ((rd_T66 l0_1 x3_2).f1.f1)) := (blk_cell BK181.out 2).trans rfl
                        have hcz40_3 : wc.cell? ⟨gb181, 3, none⟩ = some (.int .i64 ((rd_T66 l0_1 x3_2).f1.f2)) := (blk_cell BK181.out 3).trans rfl
                        have hcz40_4 : wc.cell? ⟨gb181, 4, none⟩ = some (.int .i64 ((rd_T66 l0_1 x3_2).f1.f3)) := (blk_cell BK181.out 4).trans rfl
                        have hcz40_5 : wc.cell? ⟨gb181, 5, none⟩ = some (.int .i64 ((rd_T66 l0_1 x3_2).f1.f4)) := (blk_cell BK181.out 5).trans rfl
                        have hcz40_6 : wc.cell? ⟨gb181, 6, none⟩ = some (.int .i64 ((rd_T66 l0_1 x3_2).f1.f5)) := (blk_cell BK181.out 6).trans rfl
                        have hcz40_7 : wc.cell? ⟨gb181, 7, none⟩ = some (.int .i64 ((rd_T66 l0_1 x3_2).f1.f6)) := (blk_cell BK181.out 7).trans rfl
                        have hfz40_0 := blk_frozen BK181.out 0
                        have hfz40_1 := blk_frozen BK181.out 1
                        have hfz40_2 := blk_frozen BK181.out 2
                        have hfz40_3 := blk_frozen BK181.out 3
                        have hfz40_4 := blk_frozen BK181.out 4
                        have hfz40_5 := blk_frozen BK181.out 5
                        have hfz40_6 := blk_frozen BK181.out 6
                        have hfz40_7 := blk_frozen BK181.out 7
                        go_wp2
                        go_roundg kj11
                        case measure => have := HJ1.out; have := HK2.out; have := HJ11.out; omega
                        case rel => exact ⟨(wrap64 (x3_2 + 1)), (by first | rfl | (simp; done) | (simp [*]; done)), H', ⟨by have := HJ1.out; have := HK2.out; have := HJ11.out; omega⟩, ⟨by (with_reducible repeat (first | refine blk_drewN ?_ _ | refine blk_drew ?_ | refine blk_alloc ?_ _)); exact BK179.out⟩, ⟨by repeat (first | (with_reducible first | exact HB.out | apply below_alloc | apply pw_below_drewN | apply below_drew1 | refine below_set ?_ GE179.out | refine below_set ?_ GE181.out) | exact HB.out)⟩⟩
              · rw [if_neg c11] at H
                exact absurd H (by simp)
            · rw [if_neg c10] at H
              have c10b0 : decide (x3_2 < (l0_1.length : Int)) = false := decide_eq_false c10
              clear c10
              obtain rfl := Option.some.inj H
              have hcz41_0 : wr.cell? ⟨gb179, 0, none⟩ = some (.int .i64 a0_0) := (blk_cell BK179.out 0).trans rfl
              have hcz41_1 : wr.cell? ⟨gb179, 1, none⟩ = some (.slice A0_1 l0_1.length c0_1) := (blk_cell BK179.out 1).trans rfl
              have hfz41_0 := blk_frozen BK179.out 0
              have hfz41_1 := blk_frozen BK179.out 1
              go_wp2
              go_ret
              exact ⟨by first | rfl | (simp [errW_none, errW_some] <;> rfl) | (simp [*, errW_none, errW_some] <;> rfl), by repeat (first | (with_reducible first | exact HB.out | apply below_alloc | apply pw_below_drewN | apply below_drew1 | refine below_set ?_ GE179.out) | exact HB.out)⟩

end Go.Proofs.YtlpjpmfhkmddjaaDoor.GFnExactEncodeTxn
