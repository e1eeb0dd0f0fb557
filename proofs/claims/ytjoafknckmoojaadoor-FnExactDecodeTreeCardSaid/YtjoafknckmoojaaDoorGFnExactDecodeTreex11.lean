/- Written by give.py, a program of this session, that runs the kit's print and lays contracts proved by hand beside it. -/
import Derived.Test.YtjoafknckmoojaaDoorGFnExactDecodeTreex0
namespace Go.Proofs.YtjoafknckmoojaaDoor.GFnExactDecodeTree
open Go.RowKit Go.Proofs.YtjoafknckmoojaaDoorW.PrintWords Go.Proofs.YtjoafknckmoojaaDoorW.PrintLast Go.Proofs.YtjoafknckmoojaaDoorW.PrintMore
attribute [local go_sem] max2_int min2_int max_two min_two max_three min_three max_four min_four
attribute [local go_sem high] Go.Proofs.YtjoafknckmoojaaDoorH.str_leq Go.Proofs.YtjoafknckmoojaaDoorH.str_geq Go.Proofs.YtjoafknckmoojaaDoorH.str_gtr
set_option linter.unusedVariables false
set_option linter.unusedSimpArgs false

def laws_markByteS.l0 : Nat → List Int → Int → Int → Option (Int × List Int)
 | 0, _, _, _ => none
 | k + 1, x0, x1, x5 => if x5 < (x0.length : Int) then (if 0 ≤ x5 then (laws_markByteS.l0 k (x0.set (x5 : Int).toNat ((x1) % 256)) (wrap64 (x1 + 1)) (wrap64 (x5 + 1))) else (none)) else (some (x1, x0))
def laws_markByteS.f (k : Nat) (l0 : List Int) (a1 : Int) : Option (Int × List Int) := laws_markByteS.l0 k l0 a1 0
theorem laws_markByteS.mono_l : ∀ k, (∀ y0 y1 y2, LeO (laws_markByteS.l0 k y0 y1 y2) (laws_markByteS.l0 (k + 1) y0 y1 y2))
 | 0 => fun _ _ _ r h => by simp [laws_markByteS.l0] at h
 | k + 1 => by
  have ih0 := laws_markByteS.mono_l k
  ·intro y0 y1 y2
   unfold laws_markByteS.l0
   repeat' first
   | (with_reducible exact ih0 _ _ _)
   | (with_reducible exact LeO.refl _)
   | (with_reducible exact LeO.none _)
   | (with_reducible refine LeO.ite ?_ ?_)
   | (with_reducible refine LeO.bind ?_ (fun _ => ?_))
   | exact ih0 _ _ _
   | exact LeO.none _
   | refine LeO.ite ?_ ?_
   | refine LeO.bind ?_ (fun _ => ?_)
theorem laws_markByteS.mono : ∀ a0 a1 k, LeO (laws_markByteS.f k a0 a1) (laws_markByteS.f (k + 1) a0 a1) := by
 intro a0 a1 k
 have ih0 := laws_markByteS.mono_l k
 unfold laws_markByteS.f
 repeat' first
   | (with_reducible exact ih0 _ _ _)
   | (with_reducible exact LeO.refl _)
   | (with_reducible exact LeO.none _)
   | (with_reducible refine LeO.ite ?_ ?_)
   | (with_reducible refine LeO.bind ?_ (fun _ => ?_))
   | exact ih0 _ _ _
   | exact LeO.none _
   | refine LeO.ite ?_ ?_
   | refine LeO.bind ?_ (fun _ => ?_)
set_option maxHeartbeats 8000000 in
set_option maxRecDepth 100000 in
theorem laws_markByteS.calls (k : Nat) (P0_ : Nat → Prop) (u9000_ : Value) (l0 : List Int) (a1 : Int) (r1 : Int) (r2 : List Int) (w0 w : World) (hB : Below w0.heap.size w0 w) (zD : Kd.R (Kd.int .u8) 5 w w0.heap.size P0_ u9000_ l0) (h : laws_markByteS.f k l0 a1 = some (r1, r2)) :
  Calls Tryd.prog 16 #[u9000_, .int .i64 a1] w fun e w' => e = .returned (.int .i64 r1) ∧ Kd.R (Kd.int .u8) 5 w' w0.heap.size (fun k_ => (P0_ k_ ∨ w.heap.size ≤ k_)) u9000_ r2 ∧ Below w0.heap.size w0 w' ∧ Kept w w' (fun k_ => P0_ k_) := by
 have zE := Aside0.mk (show Kd.R (Kd.int .u8) 5 w w0.heap.size (fun k_ => (P0_ k_ ∨ w.heap.size ≤ k_)) u9000_ l0 from Kd.R_mono zD (fun k_ hk => (.inl hk)))
 have HK := Aside0.mk (Kept.refl w (fun k_ => P0_ k_))
 have HW0 := Aside0.mk hB.size
 have HB := Aside0.mk hB
 clear hB
 have H : (laws_markByteS.l0 k l0 a1 0) = some (r1, r2) := h
 clear h
 have H' := Aside0.mk H
 clear H
 go_enter Tryd.func16, Tryd.ntmps16
 go_wp2
 go_loopg [1, 5] k (fun kq v1 v5 w' => ∃ (x0_1 : List Int) (x1_1 : Int) (x5_1 : Int), v1 = .int .i64 x1_1 ∧ v5 = .int .i64 x5_1 ∧ Aside0 (laws_markByteS.l0 kq x0_1 x1_1 x5_1 = some (r1, r2)) ∧ Aside0 (kq ≤ k) ∧ Aside0 (Kd.R (Kd.int .u8) 5 w' w0.heap.size (fun k_ => (P0_ k_ ∨ w.heap.size ≤ k_)) u9000_ x0_1) ∧ Aside0 (Kept w w' (fun k_ => P0_ k_)) ∧ Aside0 (Below w0.heap.size w0 w'))
 case atStart => exact ⟨(l0), (a1), (0), (by first | rfl | (simp; done) | (simp [*]; done)), (by first | rfl | (simp; done) | (simp [*]; done)), H', ⟨Nat.le_refl _⟩, ⟨by (with_reducible repeat (first | apply Kd.R_alloc | apply Kd.R_drewN | apply Kd.R_drew)); exact zE.out⟩, ⟨by repeat (first | (with_reducible first | exact HK.out | apply Kept.alloc | apply Kept.drewN | apply Kept.drew) | exact HK.out)⟩, ⟨by repeat (first | (with_reducible first | exact HB.out | apply ze | apply zc | apply zd) | exact HB.out)⟩⟩
 case round =>
  clear H'
  try clear c1
  try clear p2
  obtain ⟨x0_1, x1_1, x5_1, rfl, rfl, HA, HK1, zB, HK, HB⟩ := hrel
  cases gk with
  | zero => exact absurd HA.out (by simp [laws_markByteS.l0])
  | succ k1 =>
   have H := HA.out
   clear HA
   simp only [laws_markByteS.l0] at H
   by_cases c3 : x5_1 < (x0_1.length : Int)
   ·rw [if_pos c3] at H
    have c3b0 : decide (x5_1 < (x0_1.length : Int)) = true := decide_eq_true c3
    clear c3
    by_cases c4 : 0 ≤ x5_1
    ·rw [if_pos c4] at H
     have c4b0 : decide (0 ≤ x5_1) = true := decide_eq_true c4
     clear c4
     obtain ⟨y202, hy202⟩ : ∃ y_ : List Int, y_ = (x0_1.set (x5_1 : Int).toNat ((x1_1) % 256)) := ⟨_, rfl⟩
     replace H : (laws_markByteS.l0 k1 y202 (wrap64 (x1_1 + 1)) (wrap64 (x5_1 + 1))) = some (r1, r2) := by first | (rw [hy202]; with_reducible exact H) | (have H2_ := (Option.bind_some _ _).symm.trans H; rw [hy202]; with_reducible exact H2_) | (have H2_ := (Option.bind_some _ _).symm.trans H; with_reducible exact H2_) | with_reducible exact H | (rw [hy202]; exact H) | exact H
     have Ny202 := Aside0.mk hy202
     clear hy202
     have H' := Aside0.mk H
     clear H
     obtain ⟨Ao6, co6, eo6⟩ := Kd.R_slice zB.out
     subst eo6
     have p5 : 0 ≤ (x5_1 : Int) := of_decide_eq_true (by first | (with_reducible assumption) | assumption)
     have q5 : (x5_1 : Int) < ((x0_1.length : Int) : Int) := of_decide_eq_true (by first | (with_reducible assumption) | assumption)
     obtain ⟨go5, co5, eo5, zC, gl5, cl5, HG5⟩ := Kd.R_form zB.out (by omega)
     (first | cases eo5 | (injection eo5 with ea_ en_ ec_; (first | subst ea_ | (injection ea_ with ea_; subst ea_)); subst ec_; clear en_))
     have GB5 := Aside0.mk zC
     have GG5 := Aside0.mk HG5
     clear zC gl5 HG5
     have HMgo5 := Aside0.mk (show (P0_ go5 ∨ w.heap.size ≤ go5) from (zB.out.1 _ rfl))
     obtain ⟨hx5_0, hf5_0⟩ := Kd.R_celln 0 zB.out (x5_1 : Int) p5 q5
     replace p5 := eq_true p5
     replace q5 := eq_true q5
     have HP7 := Kd.R_putg zB.out (x5_1 : Int) ((x1_1) % 256)
     go_wp2_with (first | ((with_reducible refine gate_store (t := 5) (p := 16) rfl ?_); refine store_event (t := 5) (p := 16) (v := ?vo_w8) (w1 := (wr.setCell ⟨go5, (x5_1 : Int).toNat, none⟩ (.int .u8 ((x1_1) % 256)))) ?hg ?ho ?hn ?hr ?_; (case ho => rfl); (case hg => rfl); (case hn => rfl); (case hr => first | (go_simp; done) | (go_simp; rfl)); intro w8 hw; have hg : wr.grownBy w8 (some go5) := (by rw [hw]; exact HP7.2); have hp_ : Kd.R (Kd.int .u8) 5 w8 w0.heap.size (fun k_ => (P0_ k_ ∨ w.heap.size ≤ k_)) (.slice (some ⟨go5, 0, none⟩) x0_1.length co6) y202 := (by rw [hw, Ny202.out]; exact HP7.1); clear HP7; have n0_ := Aside0.mk (hp_); have n1_ := Aside0.mk ((by rw [hw]; exact zj (HB.out) GB5.out : Below w0.heap.size w0 w8)); have n2_ := Aside0.mk (Kept.of_grown (S := (fun k_ => P0_ k_)) hg (by repeat (first | (with_reducible first | exact HK.out | apply Kept.alloc | apply Kept.drewN | apply Kept.drew) | exact HK.out)) (fun k_ e_ => (zB.out.1 k_ e_))); clear zB; clear HB; clear HK; have zB := n0_; have HB := n1_; have HK := n2_; clear n0_ n1_ n2_; clear hg hw hp_))
     go_roundg k1
     case measure => have := HK1.out; omega
     case rel => exact ⟨(y202), (wrap64 (x1_1 + 1)), (wrap64 (x5_1 + 1)), (by first | rfl | (simp; done) | (simp [*]; done)), (by first | rfl | (simp; done) | (simp [*]; done)), H', ⟨by have := HK1.out; omega⟩, ⟨by (with_reducible repeat (first | apply Kd.R_alloc | apply Kd.R_drewN | apply Kd.R_drew)); exact zB.out⟩, ⟨by repeat (first | (with_reducible first | exact HK.out | apply Kept.alloc | apply Kept.drewN | apply Kept.drew) | exact HK.out)⟩, ⟨by repeat (first | (with_reducible first | exact HB.out | apply ze | apply zc | apply zd) | exact HB.out)⟩⟩
    ·rw [if_neg c4] at H
     exact absurd H (by simp)
   ·rw [if_neg c3] at H
    have c3b0 : decide (x5_1 < (x0_1.length : Int)) = false := decide_eq_false c3
    clear c3
    simp only [Option.some.injEq, Prod.mk.injEq] at H
    obtain ⟨rfl, rfl⟩ := H
    obtain ⟨Ao9, co9, eo9⟩ := Kd.R_slice zB.out
    subst eo9
    go_wp2
    go_ret
    exact ⟨by first | rfl | (simp [errW_none, errW_some] <;> rfl) | (simp [*, errW_none, errW_some] <;> rfl), by (with_reducible repeat (first | apply Kd.R_alloc | apply Kd.R_drewN | apply Kd.R_drew)); exact zB.out, by repeat (first | (with_reducible first | exact HB.out | apply ze | apply zc | apply zd) | exact HB.out), by repeat (first | (with_reducible first | exact HK.out | apply Kept.alloc | apply Kept.drewN | apply Kept.drew) | exact HK.out)⟩

def laws_markText.l0 : Nat → Int → ByteArray → Option (ByteArray)
 | 0, _, _ => none
 | k + 1, x0, x3 => if x0 > 0 then ((some (([(wrap64 (48 + (Int.tmod x0 10))) % 256] : List Int) : List Int)).bind fun y203 => (if (strOfNums y203).size + x3.size ≤ 9223372036854775807 then (laws_markText.l0 k (wrap64 (Int.tdiv x0 10)) ((strOfNums y203) ++ x3)) else (none))) else (if 1 + x3.size ≤ 9223372036854775807 then (some ((⟨#[109]⟩ : ByteArray) ++ x3)) else (none))
def laws_markText.f (k : Nat) (a0 : Int) : Option (ByteArray) := if a0 ≤ 0 then (some (⟨#[109, 48]⟩ : ByteArray)) else (laws_markText.l0 k a0 (⟨#[]⟩ : ByteArray))
theorem laws_markText.mono_l : ∀ k, (∀ y0 y1, LeO (laws_markText.l0 k y0 y1) (laws_markText.l0 (k + 1) y0 y1))
 | 0 => fun _ _ r h => by simp [laws_markText.l0] at h
 | k + 1 => by
  have ih0 := laws_markText.mono_l k
  ·intro y0 y1
   unfold laws_markText.l0
   repeat' first
   | (with_reducible exact ih0 _ _)
   | (with_reducible exact LeO.refl _)
   | (with_reducible exact LeO.none _)
   | (with_reducible refine LeO.ite ?_ ?_)
   | (with_reducible refine LeO.bind ?_ (fun _ => ?_))
   | exact ih0 _ _
   | exact LeO.none _
   | refine LeO.ite ?_ ?_
   | refine LeO.bind ?_ (fun _ => ?_)
theorem laws_markText.mono : ∀ a0 k, LeO (laws_markText.f k a0) (laws_markText.f (k + 1) a0) := by
 intro a0 k
 have ih0 := laws_markText.mono_l k
 unfold laws_markText.f
 repeat' first
   | (with_reducible exact ih0 _ _)
   | (with_reducible exact LeO.refl _)
   | (with_reducible exact LeO.none _)
   | (with_reducible refine LeO.ite ?_ ?_)
   | (with_reducible refine LeO.bind ?_ (fun _ => ?_))
   | exact ih0 _ _
   | exact LeO.none _
   | refine LeO.ite ?_ ?_
   | refine LeO.bind ?_ (fun _ => ?_)
set_option maxHeartbeats 8000000 in
set_option maxRecDepth 100000 in
theorem laws_markText.calls (k : Nat) (a0 : Int) (r : ByteArray) (w : World) (h : laws_markText.f k a0 = some r) :
  Calls Tryd.prog 101 #[.int .i64 a0] w fun e w' => e = .returned (.string r) ∧ Below w.heap.size w w' := by
 have HB := Aside0.mk (Below.refl w.heap.size w)
 have H : (if a0 ≤ 0 then (some (⟨#[109, 48]⟩ : ByteArray)) else (laws_markText.l0 k a0 (⟨#[]⟩ : ByteArray))) = some r := h
 clear h
 by_cases c2 : a0 ≤ 0
 ·rw [if_pos c2] at H
  have c2b0 : decide (a0 ≤ 0) = true := decide_eq_true c2
  clear c2
  obtain rfl := Option.some.inj H
  go_enter Tryd.func101, Tryd.ntmps101
  go_wp2
  go_ret
  exact ⟨by first | rfl | (simp [errW_none, errW_some] <;> rfl) | (simp [*, errW_none, errW_some] <;> rfl), by repeat (first | (with_reducible first | exact HB.out | apply ze | apply zc | apply zd) | exact HB.out)⟩
 ·rw [if_neg c2] at H
  have c2b0 : decide (a0 ≤ 0) = false := decide_eq_false c2
  clear c2
  have H' := Aside0.mk H
  clear H
  go_enter Tryd.func101, Tryd.ntmps101
  go_wp2
  go_loopg [0, 3] k (fun kq v0 v3 w' => ∃ (x0_1 : Int) (x3_1 : ByteArray), v0 = .int .i64 x0_1 ∧ v3 = .string x3_1 ∧ Aside0 (laws_markText.l0 kq x0_1 x3_1 = some r) ∧ Aside0 (kq ≤ k) ∧ Aside0 (Below w.heap.size w w'))
  case atStart => exact ⟨(a0), ((⟨#[]⟩ : ByteArray)), (by first | rfl | (simp; done) | (simp [*]; done)), (by first | rfl | (simp; done) | (simp [*]; done)), H', ⟨Nat.le_refl _⟩, ⟨by repeat (first | (with_reducible first | exact HB.out | apply ze | apply zc | apply zd) | exact HB.out)⟩⟩
  case round =>
   clear H'
   try clear c1
   try clear c2
   try clear c2b0
   try clear p2
   obtain ⟨x0_1, x3_1, rfl, rfl, HA, HK1, HB⟩ := hrel
   cases gk with
   | zero => exact absurd HA.out (by simp [laws_markText.l0])
   | succ k1 =>
    have H := HA.out
    clear HA
    simp only [laws_markText.l0] at H
    by_cases c3 : x0_1 > 0
    ·rw [if_pos c3] at H
     have c3b0 : decide (0 < x0_1) = true := decide_eq_true c3
     clear c3
     obtain ⟨y203, hy203⟩ : ∃ y_ : List Int, y_ = (([(wrap64 (48 + (Int.tmod x0_1 10))) % 256] : List Int)) := ⟨_, rfl⟩
     replace H : (if (strOfNums y203).size + x3_1.size ≤ 9223372036854775807 then (laws_markText.l0 k1 (wrap64 (Int.tdiv x0_1 10)) ((strOfNums y203) ++ x3_1)) else (none)) = some r := by first | (rw [hy203]; with_reducible exact H) | (have H2_ := (Option.bind_some _ _).symm.trans H; rw [hy203]; with_reducible exact H2_) | (have H2_ := (Option.bind_some _ _).symm.trans H; with_reducible exact H2_) | with_reducible exact H | (rw [hy203]; exact H) | exact H
     have Ny203 := Aside0.mk hy203
     clear hy203
     by_cases c4 : (strOfNums y203).size + x3_1.size ≤ 9223372036854775807
     ·rw [if_pos c4] at H
      have c4b0 := eq_true c4
      have c4b1 : decide ((strOfNums y203).size + x3_1.size ≤ 9223372036854775807) = true := decide_eq_true c4
      try have c4b2 : (9223372036854775807 < (strOfNums y203).size + x3_1.size) = False := eq_false (Nat.not_lt.2 c4)
      have H' := Aside0.mk H
      clear H
      go_wp2_with (first | ((with_reducible refine zv (N := 12) rfl ?_); refine Kd.R_lit (Kd.int .u8) _ 5 ?hg (N := 12) ?hd (xs := ([(wrap64 (48 + (Int.tmod x0_1 10))) % 256] : List Int)) (inner := [.int .u8 ((wrap64 (48 + (Int.tmod x0_1 10))) % 256)]) (ok := fun _ => True) (okp := fun _ => True) ?hr ?hp (fun _ hk => hk) trivial (Below.refl _ _) (Nat.le_refl _) (by simp) ?_; (case hd => rfl); (case hg => rfl); (case hr => first | (go_simp; done) | (go_simp; rfl)); (case hp => exact (Reps.one (show Kd.M (Kd.int .u8) _ _ _ ((wrap64 (48 + (Int.tmod x0_1 10))) % 256) [.int .u8 ((wrap64 (48 + (Int.tmod x0_1 10))) % 256)] from rfl) (Reps.none _ _))); intro v204 w5 zB hb hg_ hnew_; clear hg_ hnew_; (first | rw [← Ny203.out] at zB | (simp only [Int.reduceToNat] at zB; rw [← Ny203.out] at zB)); have n0_ := Aside0.mk (Kd.R_lower zB (zm (by repeat (first | (with_reducible first | exact HB.out | apply ze | apply zc | apply zd) | exact HB.out)))); have n1_ := Aside0.mk (zl (by repeat (first | (with_reducible first | exact HB.out | apply ze | apply zc | apply zd) | exact HB.out)) hb); clear HB; have zC := n0_; have HB := n1_; clear n0_ n1_; clear hb zB; have hcv7 := own_string (P := Tryd.prog) Tryd.underlying22 Tryd.underlying5 Tryd.underlying9 (Kd.own_of_R zC.out)))
      go_roundg k1
      case measure => have := HK1.out; omega
      case rel => exact ⟨(wrap64 (Int.tdiv x0_1 10)), ((strOfNums y203) ++ x3_1), (by first | rfl | (simp; done) | (simp [*]; done)), (by first | rfl | (simp; done) | (simp [*]; done)), H', ⟨by have := HK1.out; omega⟩, ⟨by repeat (first | (with_reducible first | exact HB.out | apply ze | apply zc | apply zd) | exact HB.out)⟩⟩
     ·rw [if_neg c4] at H
      exact absurd H (by simp)
    ·rw [if_neg c3] at H
     have c3b0 : decide (0 < x0_1) = false := decide_eq_false c3
     clear c3
     by_cases c8 : 1 + x3_1.size ≤ 9223372036854775807
     ·rw [if_pos c8] at H
      have c8b0 := eq_true c8
      have c8b1 : decide (1 + x3_1.size ≤ 9223372036854775807) = true := decide_eq_true c8
      try have c8b2 : (9223372036854775807 < 1 + x3_1.size) = False := eq_false (Nat.not_lt.2 c8)
      obtain rfl := Option.some.inj H
      go_wp2
      go_ret
      exact ⟨by first | rfl | (simp [errW_none, errW_some] <;> rfl) | (simp [*, errW_none, errW_some] <;> rfl), by repeat (first | (with_reducible first | exact HB.out | apply ze | apply zc | apply zd) | exact HB.out)⟩
     ·rw [if_neg c8] at H
      exact absurd H (by simp)

def laws_markNodeS.l0 : Nat → List (S92) → Int → Int → Option (Int × (List (S92)))
 | 0, _, _, _ => none
 | k + 1, x0, x1, x5 => if x5 < (x0.length : Int) then ((laws_markText.f k x1).bind fun t206 => (if 0 ≤ x5 then ((some (x0.set (x5 : Int).toNat (⟨t206, (rd_T92 x0 x5).f1, (rd_T92 x0 x5).f2, (rd_T92 x0 x5).f3, (rd_T92 x0 x5).f4, (rd_T92 x0 x5).f5, (rd_T92 x0 x5).f6⟩ : S92) : List (S92))).bind fun y207 => ((laws_markText.f k (wrap64 (x1 + 1))).bind fun t208 => ((some (y207.set (x5 : Int).toNat (⟨(rd_T92 y207 x5).f0, t208, (rd_T92 y207 x5).f2, (rd_T92 y207 x5).f3, (rd_T92 y207 x5).f4, (rd_T92 y207 x5).f5, (rd_T92 y207 x5).f6⟩ : S92) : List (S92))).bind fun y209 => ((some (y209.set (x5 : Int).toNat (⟨(rd_T92 y209 x5).f0, (rd_T92 y209 x5).f1, wrap64 ((wrap64 (x1 + 1)) + 1), (rd_T92 y209 x5).f3, (rd_T92 y209 x5).f4, (rd_T92 y209 x5).f5, (rd_T92 y209 x5).f6⟩ : S92) : List (S92))).bind fun y210 => ((some (y210.set (x5 : Int).toNat (⟨(rd_T92 y210 x5).f0, (rd_T92 y210 x5).f1, (rd_T92 y210 x5).f2, wrap64 ((wrap64 ((wrap64 (x1 + 1)) + 1)) + 1), (rd_T92 y210 x5).f4, (rd_T92 y210 x5).f5, (rd_T92 y210 x5).f6⟩ : S92) : List (S92))).bind fun y211 => ((some (y211.set (x5 : Int).toNat (⟨(rd_T92 y211 x5).f0, (rd_T92 y211 x5).f1, (rd_T92 y211 x5).f2, (rd_T92 y211 x5).f3, wrap64 ((wrap64 ((wrap64 ((wrap64 (x1 + 1)) + 1)) + 1)) + 1), (rd_T92 y211 x5).f5, (rd_T92 y211 x5).f6⟩ : S92) : List (S92))).bind fun y212 => ((some (y212.set (x5 : Int).toNat (⟨(rd_T92 y212 x5).f0, (rd_T92 y212 x5).f1, (rd_T92 y212 x5).f2, (rd_T92 y212 x5).f3, (rd_T92 y212 x5).f4, wrap64 ((wrap64 ((wrap64 ((wrap64 ((wrap64 (x1 + 1)) + 1)) + 1)) + 1)) + 1), (rd_T92 y212 x5).f6⟩ : S92) : List (S92))).bind fun y213 => (laws_markNodeS.l0 k (y213.set (x5 : Int).toNat (⟨(rd_T92 y213 x5).f0, (rd_T92 y213 x5).f1, (rd_T92 y213 x5).f2, (rd_T92 y213 x5).f3, (rd_T92 y213 x5).f4, (rd_T92 y213 x5).f5, wrap64 ((wrap64 ((wrap64 ((wrap64 ((wrap64 ((wrap64 (x1 + 1)) + 1)) + 1)) + 1)) + 1)) + 1)⟩ : S92)) (wrap64 ((wrap64 ((wrap64 ((wrap64 ((wrap64 ((wrap64 ((wrap64 (x1 + 1)) + 1)) + 1)) + 1)) + 1)) + 1)) + 1)) (wrap64 (x5 + 1)))))))))) else (none))) else (some (x1, x0))
def laws_markNodeS.f (k : Nat) (l0 : List (S92)) (a1 : Int) : Option (Int × (List (S92))) := laws_markNodeS.l0 k l0 a1 0
theorem laws_markNodeS.mono_l : ∀ k, (∀ y0 y1 y2, LeO (laws_markNodeS.l0 k y0 y1 y2) (laws_markNodeS.l0 (k + 1) y0 y1 y2))
 | 0 => fun _ _ _ r h => by simp [laws_markNodeS.l0] at h
 | k + 1 => by
  have ih0 := laws_markNodeS.mono_l k
  ·intro y0 y1 y2
   unfold laws_markNodeS.l0
   repeat' first
   | (with_reducible exact ih0 _ _ _)
   | (with_reducible exact laws_markText.mono _ _)
   | (with_reducible exact LeO.refl _)
   | (with_reducible exact LeO.none _)
   | (with_reducible refine LeO.ite ?_ ?_)
   | (with_reducible refine LeO.bind ?_ (fun _ => ?_))
   | exact ih0 _ _ _
   | exact laws_markText.mono _ _
   | exact LeO.none _
   | refine LeO.ite ?_ ?_
   | refine LeO.bind ?_ (fun _ => ?_)
theorem laws_markNodeS.mono : ∀ a0 a1 k, LeO (laws_markNodeS.f k a0 a1) (laws_markNodeS.f (k + 1) a0 a1) := by
 intro a0 a1 k
 have ih0 := laws_markNodeS.mono_l k
 unfold laws_markNodeS.f
 repeat' first
   | (with_reducible exact ih0 _ _ _)
   | (with_reducible exact laws_markText.mono _ _)
   | (with_reducible exact LeO.refl _)
   | (with_reducible exact LeO.none _)
   | (with_reducible refine LeO.ite ?_ ?_)
   | (with_reducible refine LeO.bind ?_ (fun _ => ?_))
   | exact ih0 _ _ _
   | exact laws_markText.mono _ _
   | exact LeO.none _
   | refine LeO.ite ?_ ?_
   | refine LeO.bind ?_ (fun _ => ?_)
set_option maxHeartbeats 8000000 in
set_option maxRecDepth 100000 in
theorem laws_markNodeS.calls (k : Nat) (P0_ : Nat → Prop) (u9000_ : Value) (l0 : List (S92)) (a1 : Int) (r1 : Int) (r2 : List (S92)) (w0 w : World) (hB : Below w0.heap.size w0 w) (zD : Kd.R k92 92 w w0.heap.size P0_ u9000_ l0) (h : laws_markNodeS.f k l0 a1 = some (r1, r2)) :
  Calls Tryd.prog 100 #[u9000_, .int .i64 a1] w fun e w' => e = .returned (.int .i64 r1) ∧ Kd.R k92 92 w' w0.heap.size (fun k_ => (P0_ k_ ∨ w.heap.size ≤ k_)) u9000_ r2 ∧ Below w0.heap.size w0 w' ∧ Kept w w' (fun k_ => P0_ k_) := by
 have zE := Aside0.mk (show Kd.R k92 92 w w0.heap.size (fun k_ => (P0_ k_ ∨ w.heap.size ≤ k_)) u9000_ l0 from Kd.R_mono zD (fun k_ hk => (.inl hk)))
 have HK := Aside0.mk (Kept.refl w (fun k_ => P0_ k_))
 have HW0 := Aside0.mk hB.size
 have HB := Aside0.mk hB
 clear hB
 have H : (laws_markNodeS.l0 k l0 a1 0) = some (r1, r2) := h
 clear h
 have H' := Aside0.mk H
 clear H
 go_enter Tryd.func100, Tryd.ntmps100
 go_wp2
 go_loopg [1, 5] k (fun kq v1 v5 w' => ∃ (x0_1 : List (S92)) (x1_1 : Int) (x5_1 : Int), v1 = .int .i64 x1_1 ∧ v5 = .int .i64 x5_1 ∧ Aside0 (laws_markNodeS.l0 kq x0_1 x1_1 x5_1 = some (r1, r2)) ∧ Aside0 (kq ≤ k) ∧ Aside0 (Kd.R k92 92 w' w0.heap.size (fun k_ => (P0_ k_ ∨ w.heap.size ≤ k_)) u9000_ x0_1) ∧ Aside0 (Kept w w' (fun k_ => P0_ k_)) ∧ Aside0 (Below w0.heap.size w0 w'))
 case atStart => exact ⟨(l0), (a1), (0), (by first | rfl | (simp; done) | (simp [*]; done)), (by first | rfl | (simp; done) | (simp [*]; done)), H', ⟨Nat.le_refl _⟩, ⟨by (with_reducible repeat (first | apply Kd.R_alloc | apply Kd.R_drewN | apply Kd.R_drew)); exact zE.out⟩, ⟨by repeat (first | (with_reducible first | exact HK.out | apply Kept.alloc | apply Kept.drewN | apply Kept.drew) | exact HK.out)⟩, ⟨by repeat (first | (with_reducible first | exact HB.out | apply ze | apply zc | apply zd) | exact HB.out)⟩⟩
 case round =>
  clear H'
  try clear c1
  try clear p2
  obtain ⟨x0_1, x1_1, x5_1, rfl, rfl, HA, HK1, zB, HK, HB⟩ := hrel
  cases gk with
  | zero => exact absurd HA.out (by simp [laws_markNodeS.l0])
  | succ k1 =>
   have H := HA.out
   clear HA
   simp only [laws_markNodeS.l0] at H
   by_cases c3 : x5_1 < (x0_1.length : Int)
   ·rw [if_pos c3] at H
    have c3b0 : decide (x5_1 < (x0_1.length : Int)) = true := decide_eq_true c3
    clear c3
    replace H := Option.bind_eq_some_iff.mp H
    obtain ⟨t206, A40, H⟩ := H
    replace H : (if 0 ≤ x5_1 then ((some (x0_1.set (x5_1 : Int).toNat (⟨t206, (rd_T92 x0_1 x5_1).f1, (rd_T92 x0_1 x5_1).f2, (rd_T92 x0_1 x5_1).f3, (rd_T92 x0_1 x5_1).f4, (rd_T92 x0_1 x5_1).f5, (rd_T92 x0_1 x5_1).f6⟩ : S92) : List (S92))).bind fun y207 => ((laws_markText.f k1 (wrap64 (x1_1 + 1))).bind fun t208 => ((some (y207.set (x5_1 : Int).toNat (⟨(rd_T92 y207 x5_1).f0, t208, (rd_T92 y207 x5_1).f2, (rd_T92 y207 x5_1).f3, (rd_T92 y207 x5_1).f4, (rd_T92 y207 x5_1).f5, (rd_T92 y207 x5_1).f6⟩ : S92) : List (S92))).bind fun y209 => ((some (y209.set (x5_1 : Int).toNat (⟨(rd_T92 y209 x5_1).f0, (rd_T92 y209 x5_1).f1, wrap64 ((wrap64 (x1_1 + 1)) + 1), (rd_T92 y209 x5_1).f3, (rd_T92 y209 x5_1).f4, (rd_T92 y209 x5_1).f5, (rd_T92 y209 x5_1).f6⟩ : S92) : List (S92))).bind fun y210 => ((some (y210.set (x5_1 : Int).toNat (⟨(rd_T92 y210 x5_1).f0, (rd_T92 y210 x5_1).f1, (rd_T92 y210 x5_1).f2, wrap64 ((wrap64 ((wrap64 (x1_1 + 1)) + 1)) + 1), (rd_T92 y210 x5_1).f4, (rd_T92 y210 x5_1).f5, (rd_T92 y210 x5_1).f6⟩ : S92) : List (S92))).bind fun y211 => ((some (y211.set (x5_1 : Int).toNat (⟨(rd_T92 y211 x5_1).f0, (rd_T92 y211 x5_1).f1, (rd_T92 y211 x5_1).f2, (rd_T92 y211 x5_1).f3, wrap64 ((wrap64 ((wrap64 ((wrap64 (x1_1 + 1)) + 1)) + 1)) + 1), (rd_T92 y211 x5_1).f5, (rd_T92 y211 x5_1).f6⟩ : S92) : List (S92))).bind fun y212 => ((some (y212.set (x5_1 : Int).toNat (⟨(rd_T92 y212 x5_1).f0, (rd_T92 y212 x5_1).f1, (rd_T92 y212 x5_1).f2, (rd_T92 y212 x5_1).f3, (rd_T92 y212 x5_1).f4, wrap64 ((wrap64 ((wrap64 ((wrap64 ((wrap64 (x1_1 + 1)) + 1)) + 1)) + 1)) + 1), (rd_T92 y212 x5_1).f6⟩ : S92) : List (S92))).bind fun y213 => (laws_markNodeS.l0 k1 (y213.set (x5_1 : Int).toNat (⟨(rd_T92 y213 x5_1).f0, (rd_T92 y213 x5_1).f1, (rd_T92 y213 x5_1).f2, (rd_T92 y213 x5_1).f3, (rd_T92 y213 x5_1).f4, (rd_T92 y213 x5_1).f5, wrap64 ((wrap64 ((wrap64 ((wrap64 ((wrap64 ((wrap64 (x1_1 + 1)) + 1)) + 1)) + 1)) + 1)) + 1)⟩ : S92)) (wrap64 ((wrap64 ((wrap64 ((wrap64 ((wrap64 ((wrap64 ((wrap64 (x1_1 + 1)) + 1)) + 1)) + 1)) + 1)) + 1)) + 1)) (wrap64 (x5_1 + 1)))))))))) else (none)) = some (r1, r2) := H
    have A4 := Aside0.mk A40
    clear A40
    by_cases c5 : 0 ≤ x5_1
    ·rw [if_pos c5] at H
     have c5b0 : decide (0 ≤ x5_1) = true := decide_eq_true c5
     clear c5
     obtain ⟨y207, hy207⟩ : ∃ y_ : List (S92), y_ = (x0_1.set (x5_1 : Int).toNat (⟨t206, (rd_T92 x0_1 x5_1).f1, (rd_T92 x0_1 x5_1).f2, (rd_T92 x0_1 x5_1).f3, (rd_T92 x0_1 x5_1).f4, (rd_T92 x0_1 x5_1).f5, (rd_T92 x0_1 x5_1).f6⟩ : S92)) := ⟨_, rfl⟩
     replace H : ((laws_markText.f k1 (wrap64 (x1_1 + 1))).bind fun t208 => ((some (y207.set (x5_1 : Int).toNat (⟨(rd_T92 y207 x5_1).f0, t208, (rd_T92 y207 x5_1).f2, (rd_T92 y207 x5_1).f3, (rd_T92 y207 x5_1).f4, (rd_T92 y207 x5_1).f5, (rd_T92 y207 x5_1).f6⟩ : S92) : List (S92))).bind fun y209 => ((some (y209.set (x5_1 : Int).toNat (⟨(rd_T92 y209 x5_1).f0, (rd_T92 y209 x5_1).f1, wrap64 ((wrap64 (x1_1 + 1)) + 1), (rd_T92 y209 x5_1).f3, (rd_T92 y209 x5_1).f4, (rd_T92 y209 x5_1).f5, (rd_T92 y209 x5_1).f6⟩ : S92) : List (S92))).bind fun y210 => ((some (y210.set (x5_1 : Int).toNat (⟨(rd_T92 y210 x5_1).f0, (rd_T92 y210 x5_1).f1, (rd_T92 y210 x5_1).f2, wrap64 ((wrap64 ((wrap64 (x1_1 + 1)) + 1)) + 1), (rd_T92 y210 x5_1).f4, (rd_T92 y210 x5_1).f5, (rd_T92 y210 x5_1).f6⟩ : S92) : List (S92))).bind fun y211 => ((some (y211.set (x5_1 : Int).toNat (⟨(rd_T92 y211 x5_1).f0, (rd_T92 y211 x5_1).f1, (rd_T92 y211 x5_1).f2, (rd_T92 y211 x5_1).f3, wrap64 ((wrap64 ((wrap64 ((wrap64 (x1_1 + 1)) + 1)) + 1)) + 1), (rd_T92 y211 x5_1).f5, (rd_T92 y211 x5_1).f6⟩ : S92) : List (S92))).bind fun y212 => ((some (y212.set (x5_1 : Int).toNat (⟨(rd_T92 y212 x5_1).f0, (rd_T92 y212 x5_1).f1, (rd_T92 y212 x5_1).f2, (rd_T92 y212 x5_1).f3, (rd_T92 y212 x5_1).f4, wrap64 ((wrap64 ((wrap64 ((wrap64 ((wrap64 (x1_1 + 1)) + 1)) + 1)) + 1)) + 1), (rd_T92 y212 x5_1).f6⟩ : S92) : List (S92))).bind fun y213 => (laws_markNodeS.l0 k1 (y213.set (x5_1 : Int).toNat (⟨(rd_T92 y213 x5_1).f0, (rd_T92 y213 x5_1).f1, (rd_T92 y213 x5_1).f2, (rd_T92 y213 x5_1).f3, (rd_T92 y213 x5_1).f4, (rd_T92 y213 x5_1).f5, wrap64 ((wrap64 ((wrap64 ((wrap64 ((wrap64 ((wrap64 (x1_1 + 1)) + 1)) + 1)) + 1)) + 1)) + 1)⟩ : S92)) (wrap64 ((wrap64 ((wrap64 ((wrap64 ((wrap64 ((wrap64 ((wrap64 (x1_1 + 1)) + 1)) + 1)) + 1)) + 1)) + 1)) + 1)) (wrap64 (x5_1 + 1))))))))) = some (r1, r2) := by first | (rw [hy207]; with_reducible exact H) | (have H2_ := (Option.bind_some _ _).symm.trans H; rw [hy207]; with_reducible exact H2_) | (have H2_ := (Option.bind_some _ _).symm.trans H; with_reducible exact H2_) | with_reducible exact H | (rw [hy207]; exact H) | exact H
     have Ny207 := Aside0.mk hy207
     clear hy207
     replace H := Option.bind_eq_some_iff.mp H
     obtain ⟨t208, A70, H⟩ := H
     replace H : ((some (y207.set (x5_1 : Int).toNat (⟨(rd_T92 y207 x5_1).f0, t208, (rd_T92 y207 x5_1).f2, (rd_T92 y207 x5_1).f3, (rd_T92 y207 x5_1).f4, (rd_T92 y207 x5_1).f5, (rd_T92 y207 x5_1).f6⟩ : S92) : List (S92))).bind fun y209 => ((some (y209.set (x5_1 : Int).toNat (⟨(rd_T92 y209 x5_1).f0, (rd_T92 y209 x5_1).f1, wrap64 ((wrap64 (x1_1 + 1)) + 1), (rd_T92 y209 x5_1).f3, (rd_T92 y209 x5_1).f4, (rd_T92 y209 x5_1).f5, (rd_T92 y209 x5_1).f6⟩ : S92) : List (S92))).bind fun y210 => ((some (y210.set (x5_1 : Int).toNat (⟨(rd_T92 y210 x5_1).f0, (rd_T92 y210 x5_1).f1, (rd_T92 y210 x5_1).f2, wrap64 ((wrap64 ((wrap64 (x1_1 + 1)) + 1)) + 1), (rd_T92 y210 x5_1).f4, (rd_T92 y210 x5_1).f5, (rd_T92 y210 x5_1).f6⟩ : S92) : List (S92))).bind fun y211 => ((some (y211.set (x5_1 : Int).toNat (⟨(rd_T92 y211 x5_1).f0, (rd_T92 y211 x5_1).f1, (rd_T92 y211 x5_1).f2, (rd_T92 y211 x5_1).f3, wrap64 ((wrap64 ((wrap64 ((wrap64 (x1_1 + 1)) + 1)) + 1)) + 1), (rd_T92 y211 x5_1).f5, (rd_T92 y211 x5_1).f6⟩ : S92) : List (S92))).bind fun y212 => ((some (y212.set (x5_1 : Int).toNat (⟨(rd_T92 y212 x5_1).f0, (rd_T92 y212 x5_1).f1, (rd_T92 y212 x5_1).f2, (rd_T92 y212 x5_1).f3, (rd_T92 y212 x5_1).f4, wrap64 ((wrap64 ((wrap64 ((wrap64 ((wrap64 (x1_1 + 1)) + 1)) + 1)) + 1)) + 1), (rd_T92 y212 x5_1).f6⟩ : S92) : List (S92))).bind fun y213 => (laws_markNodeS.l0 k1 (y213.set (x5_1 : Int).toNat (⟨(rd_T92 y213 x5_1).f0, (rd_T92 y213 x5_1).f1, (rd_T92 y213 x5_1).f2, (rd_T92 y213 x5_1).f3, (rd_T92 y213 x5_1).f4, (rd_T92 y213 x5_1).f5, wrap64 ((wrap64 ((wrap64 ((wrap64 ((wrap64 ((wrap64 (x1_1 + 1)) + 1)) + 1)) + 1)) + 1)) + 1)⟩ : S92)) (wrap64 ((wrap64 ((wrap64 ((wrap64 ((wrap64 ((wrap64 ((wrap64 (x1_1 + 1)) + 1)) + 1)) + 1)) + 1)) + 1)) + 1)) (wrap64 (x5_1 + 1)))))))) = some (r1, r2) := H
     have A7 := Aside0.mk A70
     clear A70
     obtain ⟨y209, hy209⟩ : ∃ y_ : List (S92), y_ = (y207.set (x5_1 : Int).toNat (⟨(rd_T92 y207 x5_1).f0, t208, (rd_T92 y207 x5_1).f2, (rd_T92 y207 x5_1).f3, (rd_T92 y207 x5_1).f4, (rd_T92 y207 x5_1).f5, (rd_T92 y207 x5_1).f6⟩ : S92)) := ⟨_, rfl⟩
     replace H : ((some (y209.set (x5_1 : Int).toNat (⟨(rd_T92 y209 x5_1).f0, (rd_T92 y209 x5_1).f1, wrap64 ((wrap64 (x1_1 + 1)) + 1), (rd_T92 y209 x5_1).f3, (rd_T92 y209 x5_1).f4, (rd_T92 y209 x5_1).f5, (rd_T92 y209 x5_1).f6⟩ : S92) : List (S92))).bind fun y210 => ((some (y210.set (x5_1 : Int).toNat (⟨(rd_T92 y210 x5_1).f0, (rd_T92 y210 x5_1).f1, (rd_T92 y210 x5_1).f2, wrap64 ((wrap64 ((wrap64 (x1_1 + 1)) + 1)) + 1), (rd_T92 y210 x5_1).f4, (rd_T92 y210 x5_1).f5, (rd_T92 y210 x5_1).f6⟩ : S92) : List (S92))).bind fun y211 => ((some (y211.set (x5_1 : Int).toNat (⟨(rd_T92 y211 x5_1).f0, (rd_T92 y211 x5_1).f1, (rd_T92 y211 x5_1).f2, (rd_T92 y211 x5_1).f3, wrap64 ((wrap64 ((wrap64 ((wrap64 (x1_1 + 1)) + 1)) + 1)) + 1), (rd_T92 y211 x5_1).f5, (rd_T92 y211 x5_1).f6⟩ : S92) : List (S92))).bind fun y212 => ((some (y212.set (x5_1 : Int).toNat (⟨(rd_T92 y212 x5_1).f0, (rd_T92 y212 x5_1).f1, (rd_T92 y212 x5_1).f2, (rd_T92 y212 x5_1).f3, (rd_T92 y212 x5_1).f4, wrap64 ((wrap64 ((wrap64 ((wrap64 ((wrap64 (x1_1 + 1)) + 1)) + 1)) + 1)) + 1), (rd_T92 y212 x5_1).f6⟩ : S92) : List (S92))).bind fun y213 => (laws_markNodeS.l0 k1 (y213.set (x5_1 : Int).toNat (⟨(rd_T92 y213 x5_1).f0, (rd_T92 y213 x5_1).f1, (rd_T92 y213 x5_1).f2, (rd_T92 y213 x5_1).f3, (rd_T92 y213 x5_1).f4, (rd_T92 y213 x5_1).f5, wrap64 ((wrap64 ((wrap64 ((wrap64 ((wrap64 ((wrap64 (x1_1 + 1)) + 1)) + 1)) + 1)) + 1)) + 1)⟩ : S92)) (wrap64 ((wrap64 ((wrap64 ((wrap64 ((wrap64 ((wrap64 ((wrap64 (x1_1 + 1)) + 1)) + 1)) + 1)) + 1)) + 1)) + 1)) (wrap64 (x5_1 + 1))))))) = some (r1, r2) := by first | (rw [hy209]; with_reducible exact H) | (have H2_ := (Option.bind_some _ _).symm.trans H; rw [hy209]; with_reducible exact H2_) | (have H2_ := (Option.bind_some _ _).symm.trans H; with_reducible exact H2_) | with_reducible exact H | (rw [hy209]; exact H) | exact H
     have Ny209 := Aside0.mk hy209
     clear hy209
     obtain ⟨y210, hy210⟩ : ∃ y_ : List (S92), y_ = (y209.set (x5_1 : Int).toNat (⟨(rd_T92 y209 x5_1).f0, (rd_T92 y209 x5_1).f1, wrap64 ((wrap64 (x1_1 + 1)) + 1), (rd_T92 y209 x5_1).f3, (rd_T92 y209 x5_1).f4, (rd_T92 y209 x5_1).f5, (rd_T92 y209 x5_1).f6⟩ : S92)) := ⟨_, rfl⟩
     replace H : ((some (y210.set (x5_1 : Int).toNat (⟨(rd_T92 y210 x5_1).f0, (rd_T92 y210 x5_1).f1, (rd_T92 y210 x5_1).f2, wrap64 ((wrap64 ((wrap64 (x1_1 + 1)) + 1)) + 1), (rd_T92 y210 x5_1).f4, (rd_T92 y210 x5_1).f5, (rd_T92 y210 x5_1).f6⟩ : S92) : List (S92))).bind fun y211 => ((some (y211.set (x5_1 : Int).toNat (⟨(rd_T92 y211 x5_1).f0, (rd_T92 y211 x5_1).f1, (rd_T92 y211 x5_1).f2, (rd_T92 y211 x5_1).f3, wrap64 ((wrap64 ((wrap64 ((wrap64 (x1_1 + 1)) + 1)) + 1)) + 1), (rd_T92 y211 x5_1).f5, (rd_T92 y211 x5_1).f6⟩ : S92) : List (S92))).bind fun y212 => ((some (y212.set (x5_1 : Int).toNat (⟨(rd_T92 y212 x5_1).f0, (rd_T92 y212 x5_1).f1, (rd_T92 y212 x5_1).f2, (rd_T92 y212 x5_1).f3, (rd_T92 y212 x5_1).f4, wrap64 ((wrap64 ((wrap64 ((wrap64 ((wrap64 (x1_1 + 1)) + 1)) + 1)) + 1)) + 1), (rd_T92 y212 x5_1).f6⟩ : S92) : List (S92))).bind fun y213 => (laws_markNodeS.l0 k1 (y213.set (x5_1 : Int).toNat (⟨(rd_T92 y213 x5_1).f0, (rd_T92 y213 x5_1).f1, (rd_T92 y213 x5_1).f2, (rd_T92 y213 x5_1).f3, (rd_T92 y213 x5_1).f4, (rd_T92 y213 x5_1).f5, wrap64 ((wrap64 ((wrap64 ((wrap64 ((wrap64 ((wrap64 (x1_1 + 1)) + 1)) + 1)) + 1)) + 1)) + 1)⟩ : S92)) (wrap64 ((wrap64 ((wrap64 ((wrap64 ((wrap64 ((wrap64 ((wrap64 (x1_1 + 1)) + 1)) + 1)) + 1)) + 1)) + 1)) + 1)) (wrap64 (x5_1 + 1)))))) = some (r1, r2) := by first | (rw [hy210]; with_reducible exact H) | (have H2_ := (Option.bind_some _ _).symm.trans H; rw [hy210]; with_reducible exact H2_) | (have H2_ := (Option.bind_some _ _).symm.trans H; with_reducible exact H2_) | with_reducible exact H | (rw [hy210]; exact H) | exact H
     have Ny210 := Aside0.mk hy210
     clear hy210
     obtain ⟨y211, hy211⟩ : ∃ y_ : List (S92), y_ = (y210.set (x5_1 : Int).toNat (⟨(rd_T92 y210 x5_1).f0, (rd_T92 y210 x5_1).f1, (rd_T92 y210 x5_1).f2, wrap64 ((wrap64 ((wrap64 (x1_1 + 1)) + 1)) + 1), (rd_T92 y210 x5_1).f4, (rd_T92 y210 x5_1).f5, (rd_T92 y210 x5_1).f6⟩ : S92)) := ⟨_, rfl⟩
     replace H : ((some (y211.set (x5_1 : Int).toNat (⟨(rd_T92 y211 x5_1).f0, (rd_T92 y211 x5_1).f1, (rd_T92 y211 x5_1).f2, (rd_T92 y211 x5_1).f3, wrap64 ((wrap64 ((wrap64 ((wrap64 (x1_1 + 1)) + 1)) + 1)) + 1), (rd_T92 y211 x5_1).f5, (rd_T92 y211 x5_1).f6⟩ : S92) : List (S92))).bind fun y212 => ((some (y212.set (x5_1 : Int).toNat (⟨(rd_T92 y212 x5_1).f0, (rd_T92 y212 x5_1).f1, (rd_T92 y212 x5_1).f2, (rd_T92 y212 x5_1).f3, (rd_T92 y212 x5_1).f4, wrap64 ((wrap64 ((wrap64 ((wrap64 ((wrap64 (x1_1 + 1)) + 1)) + 1)) + 1)) + 1), (rd_T92 y212 x5_1).f6⟩ : S92) : List (S92))).bind fun y213 => (laws_markNodeS.l0 k1 (y213.set (x5_1 : Int).toNat (⟨(rd_T92 y213 x5_1).f0, (rd_T92 y213 x5_1).f1, (rd_T92 y213 x5_1).f2, (rd_T92 y213 x5_1).f3, (rd_T92 y213 x5_1).f4, (rd_T92 y213 x5_1).f5, wrap64 ((wrap64 ((wrap64 ((wrap64 ((wrap64 ((wrap64 (x1_1 + 1)) + 1)) + 1)) + 1)) + 1)) + 1)⟩ : S92)) (wrap64 ((wrap64 ((wrap64 ((wrap64 ((wrap64 ((wrap64 ((wrap64 (x1_1 + 1)) + 1)) + 1)) + 1)) + 1)) + 1)) + 1)) (wrap64 (x5_1 + 1))))) = some (r1, r2) := by first | (rw [hy211]; with_reducible exact H) | (have H2_ := (Option.bind_some _ _).symm.trans H; rw [hy211]; with_reducible exact H2_) | (have H2_ := (Option.bind_some _ _).symm.trans H; with_reducible exact H2_) | with_reducible exact H | (rw [hy211]; exact H) | exact H
     have Ny211 := Aside0.mk hy211
     clear hy211
     obtain ⟨y212, hy212⟩ : ∃ y_ : List (S92), y_ = (y211.set (x5_1 : Int).toNat (⟨(rd_T92 y211 x5_1).f0, (rd_T92 y211 x5_1).f1, (rd_T92 y211 x5_1).f2, (rd_T92 y211 x5_1).f3, wrap64 ((wrap64 ((wrap64 ((wrap64 (x1_1 + 1)) + 1)) + 1)) + 1), (rd_T92 y211 x5_1).f5, (rd_T92 y211 x5_1).f6⟩ : S92)) := ⟨_, rfl⟩
     replace H : ((some (y212.set (x5_1 : Int).toNat (⟨(rd_T92 y212 x5_1).f0, (rd_T92 y212 x5_1).f1, (rd_T92 y212 x5_1).f2, (rd_T92 y212 x5_1).f3, (rd_T92 y212 x5_1).f4, wrap64 ((wrap64 ((wrap64 ((wrap64 ((wrap64 (x1_1 + 1)) + 1)) + 1)) + 1)) + 1), (rd_T92 y212 x5_1).f6⟩ : S92) : List (S92))).bind fun y213 => (laws_markNodeS.l0 k1 (y213.set (x5_1 : Int).toNat (⟨(rd_T92 y213 x5_1).f0, (rd_T92 y213 x5_1).f1, (rd_T92 y213 x5_1).f2, (rd_T92 y213 x5_1).f3, (rd_T92 y213 x5_1).f4, (rd_T92 y213 x5_1).f5, wrap64 ((wrap64 ((wrap64 ((wrap64 ((wrap64 ((wrap64 (x1_1 + 1)) + 1)) + 1)) + 1)) + 1)) + 1)⟩ : S92)) (wrap64 ((wrap64 ((wrap64 ((wrap64 ((wrap64 ((wrap64 ((wrap64 (x1_1 + 1)) + 1)) + 1)) + 1)) + 1)) + 1)) + 1)) (wrap64 (x5_1 + 1)))) = some (r1, r2) := by first | (rw [hy212]; with_reducible exact H) | (have H2_ := (Option.bind_some _ _).symm.trans H; rw [hy212]; with_reducible exact H2_) | (have H2_ := (Option.bind_some _ _).symm.trans H; with_reducible exact H2_) | with_reducible exact H | (rw [hy212]; exact H) | exact H
     have Ny212 := Aside0.mk hy212
     clear hy212
     obtain ⟨y213, hy213⟩ : ∃ y_ : List (S92), y_ = (y212.set (x5_1 : Int).toNat (⟨(rd_T92 y212 x5_1).f0, (rd_T92 y212 x5_1).f1, (rd_T92 y212 x5_1).f2, (rd_T92 y212 x5_1).f3, (rd_T92 y212 x5_1).f4, wrap64 ((wrap64 ((wrap64 ((wrap64 ((wrap64 (x1_1 + 1)) + 1)) + 1)) + 1)) + 1), (rd_T92 y212 x5_1).f6⟩ : S92)) := ⟨_, rfl⟩
     replace H : (laws_markNodeS.l0 k1 (y213.set (x5_1 : Int).toNat (⟨(rd_T92 y213 x5_1).f0, (rd_T92 y213 x5_1).f1, (rd_T92 y213 x5_1).f2, (rd_T92 y213 x5_1).f3, (rd_T92 y213 x5_1).f4, (rd_T92 y213 x5_1).f5, wrap64 ((wrap64 ((wrap64 ((wrap64 ((wrap64 ((wrap64 (x1_1 + 1)) + 1)) + 1)) + 1)) + 1)) + 1)⟩ : S92)) (wrap64 ((wrap64 ((wrap64 ((wrap64 ((wrap64 ((wrap64 ((wrap64 (x1_1 + 1)) + 1)) + 1)) + 1)) + 1)) + 1)) + 1)) (wrap64 (x5_1 + 1))) = some (r1, r2) := by first | (rw [hy213]; with_reducible exact H) | (have H2_ := (Option.bind_some _ _).symm.trans H; rw [hy213]; with_reducible exact H2_) | (have H2_ := (Option.bind_some _ _).symm.trans H; with_reducible exact H2_) | with_reducible exact H | (rw [hy213]; exact H) | exact H
     have Ny213 := Aside0.mk hy213
     clear hy213
     obtain ⟨y214, hy214⟩ : ∃ y_ : List (S92), y_ = (y213.set (x5_1 : Int).toNat (⟨(rd_T92 y213 x5_1).f0, (rd_T92 y213 x5_1).f1, (rd_T92 y213 x5_1).f2, (rd_T92 y213 x5_1).f3, (rd_T92 y213 x5_1).f4, (rd_T92 y213 x5_1).f5, wrap64 ((wrap64 ((wrap64 ((wrap64 ((wrap64 ((wrap64 (x1_1 + 1)) + 1)) + 1)) + 1)) + 1)) + 1)⟩ : S92)) := ⟨_, rfl⟩
     replace H : (laws_markNodeS.l0 k1 y214 (wrap64 ((wrap64 ((wrap64 ((wrap64 ((wrap64 ((wrap64 ((wrap64 (x1_1 + 1)) + 1)) + 1)) + 1)) + 1)) + 1)) + 1)) (wrap64 (x5_1 + 1))) = some (r1, r2) := by first | (rw [hy214]; with_reducible exact H) | (have H2_ := (Option.bind_some _ _).symm.trans H; rw [hy214]; with_reducible exact H2_) | (have H2_ := (Option.bind_some _ _).symm.trans H; with_reducible exact H2_) | with_reducible exact H | (rw [hy214]; exact H) | exact H
     have Ny214 := Aside0.mk hy214
     clear hy214
     have H' := Aside0.mk H
     clear H
     obtain ⟨Ao14, co14, eo14⟩ := Kd.R_slice zB.out
     subst eo14
     go_wp2_with (first | ((with_reducible refine zq (f := 101) rfl ?_); refine zz (some 15) rfl rfl Tryd.func101 (by kernel_rfl) rfl #[.int .i64 x1_1] rfl (by (try simp only [List.map_toArray, List.map_cons, List.map_nil]); first | done | rfl | (simp only [List.length_drop, List.length_take]; rfl)) ?_; (with_reducible refine (laws_markText.calls k1 x1_1 t206 _ A4.out).mono ?_); rintro e w15 ⟨rfl, hb⟩; refine ⟨_, rfl, ?_⟩; have n0_ := Aside0.mk (Kd.R_below (by (with_reducible repeat (first | apply Kd.R_alloc | apply Kd.R_drewN | apply Kd.R_drew)); exact zB.out) hb); have n1_ := Aside0.mk (Kept.below (S := (fun k_ => P0_ k_)) (by repeat (first | (with_reducible first | exact HK.out | apply Kept.alloc | apply Kept.drewN | apply Kept.drew) | exact HK.out)) hb); have n2_ := Aside0.mk (zl (by repeat (first | (with_reducible first | exact HB.out | apply ze | apply zc | apply zd) | exact HB.out)) hb); clear zB; clear HK; clear HB; have zB := n0_; have HK := n1_; have HB := n2_; clear n0_ n1_ n2_; (try clear hb); (try clear hb2); (try clear hk); (try clear hi); have p6 : 0 ≤ (x5_1 : Int) := of_decide_eq_true (by first | (with_reducible assumption) | assumption); have q6 : (x5_1 : Int) < ((x0_1.length : Int) : Int) := of_decide_eq_true (by first | (with_reducible assumption) | assumption); obtain ⟨go6, co6, eo6, zC, gl6, cl6, HG6⟩ := Kd.R_form zB.out (by omega); (first | cases eo6 | (injection eo6 with ea_ en_ ec_; (first | subst ea_ | (injection ea_ with ea_; subst ea_)); subst ec_; clear en_)); have GB6 := Aside0.mk zC; have GG6 := Aside0.mk HG6; clear zC gl6 HG6; have HMgo6 := Aside0.mk (show (P0_ go6 ∨ w.heap.size ≤ go6) from (zB.out.1 _ rfl)); obtain ⟨ce6, hcl6, hM6, hcc6, hfr6⟩ := Kd.R_elem zB.out z92 (x5_1 : Int) p6 q6; obtain rfl := k92_openM hM6; have hx6_0 : w15.cell? ⟨go6, (x5_1 : Int).toNat * 7, none⟩ = some (.string ((rd_T92 x0_1 x5_1).f0)) := hcc6 0 _ rfl; have hx6_1 : w15.cell? ⟨go6, (x5_1 : Int).toNat * 7 + 1, none⟩ = some (.string ((rd_T92 x0_1 x5_1).f1)) := hcc6 1 _ rfl; have hx6_2 : w15.cell? ⟨go6, (x5_1 : Int).toNat * 7 + 2, none⟩ = some (.int .i64 ((rd_T92 x0_1 x5_1).f2)) := hcc6 2 _ rfl; have hx6_3 : w15.cell? ⟨go6, (x5_1 : Int).toNat * 7 + 3, none⟩ = some (.int .i64 ((rd_T92 x0_1 x5_1).f3)) := hcc6 3 _ rfl; have hx6_4 : w15.cell? ⟨go6, (x5_1 : Int).toNat * 7 + 4, none⟩ = some (.int .i64 ((rd_T92 x0_1 x5_1).f4)) := hcc6 4 _ rfl; have hx6_5 : w15.cell? ⟨go6, (x5_1 : Int).toNat * 7 + 5, none⟩ = some (.int .i64 ((rd_T92 x0_1 x5_1).f5)) := hcc6 5 _ rfl; have hx6_6 : w15.cell? ⟨go6, (x5_1 : Int).toNat * 7 + 6, none⟩ = some (.int .i64 ((rd_T92 x0_1 x5_1).f6)) := hcc6 6 _ rfl; have hf6_0 : w15.frozen? ⟨go6, (x5_1 : Int).toNat * 7, none⟩ = false := hfr6 0; have hf6_1 : w15.frozen? ⟨go6, (x5_1 : Int).toNat * 7 + 1, none⟩ = false := hfr6 1; have hf6_2 : w15.frozen? ⟨go6, (x5_1 : Int).toNat * 7 + 2, none⟩ = false := hfr6 2; have hf6_3 : w15.frozen? ⟨go6, (x5_1 : Int).toNat * 7 + 3, none⟩ = false := hfr6 3; have hf6_4 : w15.frozen? ⟨go6, (x5_1 : Int).toNat * 7 + 4, none⟩ = false := hfr6 4; have hf6_5 : w15.frozen? ⟨go6, (x5_1 : Int).toNat * 7 + 5, none⟩ = false := hfr6 5; have hf6_6 : w15.frozen? ⟨go6, (x5_1 : Int).toNat * 7 + 6, none⟩ = false := hfr6 6; clear hcl6 hcc6 hfr6 hM6; replace p6 := eq_true p6; replace q6 := eq_true q6; have HX16 := Aside0.mk (show Kd.R k92 92 w15 w0.heap.size (fun k_ => (P0_ k_ ∨ w.heap.size ≤ k_)) (.slice (some ⟨go6, 0, none⟩) x0_1.length co14) x0_1 from (by (with_reducible repeat (first | apply Kd.R_alloc | apply Kd.R_drewN | apply Kd.R_drew)); exact zB.out)); obtain ⟨ce16, hcl16, hM16, hcc16, hfr16⟩ := Kd.R_elem HX16.out z92 (x5_1 : Int) (of_decide_eq_true (by first | (with_reducible assumption) | assumption)) (by have h_ : (x5_1 : Int) < ((x0_1.length : Int) : Int) := of_decide_eq_true (by first | (with_reducible assumption) | assumption); first | exact h_ | (have e_ := (Kd.R_reads' zB.out).1; omega) | simpa using h_); obtain rfl := k92_openM hM16; have HP16 := Kd.R_seg HX16.out (x5_1 : Int) (of_decide_eq_true (by first | (with_reducible assumption) | assumption)) (by have h_ : (x5_1 : Int) < ((x0_1.length : Int) : Int) := of_decide_eq_true (by first | (with_reducible assumption) | assumption); first | exact h_ | (have e_ := (Kd.R_reads' zB.out).1; omega) | simpa using h_) (seg := [.string t206]) (j := 0) hcl16 hcc16 (show 1 ≤ 7 from by decide) (x' := (⟨t206, (rd_T92 x0_1 x5_1).f1, (rd_T92 x0_1 x5_1).f2, (rd_T92 x0_1 x5_1).f3, (rd_T92 x0_1 x5_1).f4, (rd_T92 x0_1 x5_1).f5, (rd_T92 x0_1 x5_1).f6⟩ : S92)) (k92_mkM _ _ _ (⟨t206, (rd_T92 x0_1 x5_1).f1, (rd_T92 x0_1 x5_1).f2, (rd_T92 x0_1 x5_1).f3, (rd_T92 x0_1 x5_1).f4, (rd_T92 x0_1 x5_1).f5, (rd_T92 x0_1 x5_1).f6⟩ : S92) ) (fun _ hk => hk); have hx16_0 := hcc16 0 _ rfl; (try simp only [show (k92).sz = 7 from rfl, Nat.mul_one, Nat.add_zero] at hx16_0); have hf16_0 := hfr16 0; (try simp only [show (k92).sz = 7 from rfl, Nat.mul_one, Nat.add_zero] at hf16_0); clear hcl16 hcc16 hfr16 hM16) | ((with_reducible refine gate_store (t := 9) (p := 17) rfl ?_); refine store_event (t := 9) (p := 17) (v := ?vo_w17) (w1 := (w15.setCell ⟨go6, (x5_1 : Int).toNat * 7, none⟩ (.string t206))) ?hg ?ho ?hn ?hr ?_; (case ho => rfl); (case hg => rfl); (case hn => rfl); (case hr => first | (go_simp; done) | (go_simp; rfl)); intro w17 hw; have hg : w15.grownBy w17 (some go6) := (by rw [hw]; exact HP16.2); have hp_ : Kd.R k92 92 w17 w0.heap.size (fun k_ => (P0_ k_ ∨ w.heap.size ≤ k_)) (.slice (some ⟨go6, 0, none⟩) x0_1.length co14) y207 := (by rw [hw, Ny207.out]; exact HP16.1); clear HP16; have n0_ := Aside0.mk (hp_); have n1_ := Aside0.mk ((by rw [hw]; exact zj (HB.out) GB6.out : Below w0.heap.size w0 w17)); have n2_ := Aside0.mk (Kept.of_grown (S := (fun k_ => P0_ k_)) hg (by repeat (first | (with_reducible first | exact HK.out | apply Kept.alloc | apply Kept.drewN | apply Kept.drew) | exact HK.out)) (fun k_ e_ => (zB.out.1 k_ e_))); clear zB; clear HB; clear HK; have zB := n0_; have HB := n1_; have HK := n2_; clear n0_ n1_ n2_; clear hg hw hp_) | ((with_reducible refine zq (f := 101) rfl ?_); refine zz (some 23) rfl rfl Tryd.func101 (by kernel_rfl) rfl #[.int .i64 (wrap64 (x1_1 + 1))] rfl (by (try simp only [List.map_toArray, List.map_cons, List.map_nil]); first | done | rfl | (simp only [List.length_drop, List.length_take]; rfl)) ?_; (with_reducible refine (laws_markText.calls k1 (wrap64 (x1_1 + 1)) t208 _ A7.out).mono ?_); rintro e w18 ⟨rfl, hb⟩; refine ⟨_, rfl, ?_⟩; have n0_ := Aside0.mk (Kd.R_below (by (with_reducible repeat (first | apply Kd.R_alloc | apply Kd.R_drewN | apply Kd.R_drew)); exact zB.out) hb); have n1_ := Aside0.mk (Kept.below (S := (fun k_ => P0_ k_)) (by repeat (first | (with_reducible first | exact HK.out | apply Kept.alloc | apply Kept.drewN | apply Kept.drew) | exact HK.out)) hb); have n2_ := Aside0.mk (zl (by repeat (first | (with_reducible first | exact HB.out | apply ze | apply zc | apply zd) | exact HB.out)) hb); clear zB; clear HK; clear HB; have zB := n0_; have HK := n1_; have HB := n2_; clear n0_ n1_ n2_; (try clear hb); (try clear hb2); (try clear hk); (try clear hi); have p8 : 0 ≤ (x5_1 : Int) := of_decide_eq_true (by first | (with_reducible assumption) | assumption); have q8 : (x5_1 : Int) < ((x0_1.length : Int) : Int) := of_decide_eq_true (by first | (with_reducible assumption) | assumption); obtain ⟨ce8, hcl8, hM8, hcc8, hfr8⟩ := Kd.R_elem zB.out z92 (x5_1 : Int) p8 q8; obtain rfl := k92_openM hM8; have hx8_0 : w18.cell? ⟨go6, (x5_1 : Int).toNat * 7, none⟩ = some (.string ((rd_T92 y207 x5_1).f0)) := hcc8 0 _ rfl; have hx8_1 : w18.cell? ⟨go6, (x5_1 : Int).toNat * 7 + 1, none⟩ = some (.string ((rd_T92 y207 x5_1).f1)) := hcc8 1 _ rfl; have hx8_2 : w18.cell? ⟨go6, (x5_1 : Int).toNat * 7 + 2, none⟩ = some (.int .i64 ((rd_T92 y207 x5_1).f2)) := hcc8 2 _ rfl; have hx8_3 : w18.cell? ⟨go6, (x5_1 : Int).toNat * 7 + 3, none⟩ = some (.int .i64 ((rd_T92 y207 x5_1).f3)) := hcc8 3 _ rfl; have hx8_4 : w18.cell? ⟨go6, (x5_1 : Int).toNat * 7 + 4, none⟩ = some (.int .i64 ((rd_T92 y207 x5_1).f4)) := hcc8 4 _ rfl; have hx8_5 : w18.cell? ⟨go6, (x5_1 : Int).toNat * 7 + 5, none⟩ = some (.int .i64 ((rd_T92 y207 x5_1).f5)) := hcc8 5 _ rfl; have hx8_6 : w18.cell? ⟨go6, (x5_1 : Int).toNat * 7 + 6, none⟩ = some (.int .i64 ((rd_T92 y207 x5_1).f6)) := hcc8 6 _ rfl; have hf8_0 : w18.frozen? ⟨go6, (x5_1 : Int).toNat * 7, none⟩ = false := hfr8 0; have hf8_1 : w18.frozen? ⟨go6, (x5_1 : Int).toNat * 7 + 1, none⟩ = false := hfr8 1; have hf8_2 : w18.frozen? ⟨go6, (x5_1 : Int).toNat * 7 + 2, none⟩ = false := hfr8 2; have hf8_3 : w18.frozen? ⟨go6, (x5_1 : Int).toNat * 7 + 3, none⟩ = false := hfr8 3; have hf8_4 : w18.frozen? ⟨go6, (x5_1 : Int).toNat * 7 + 4, none⟩ = false := hfr8 4; have hf8_5 : w18.frozen? ⟨go6, (x5_1 : Int).toNat * 7 + 5, none⟩ = false := hfr8 5; have hf8_6 : w18.frozen? ⟨go6, (x5_1 : Int).toNat * 7 + 6, none⟩ = false := hfr8 6; clear hcl8 hcc8 hfr8 hM8; replace p8 := eq_true p8; replace q8 := eq_true q8; have HX19 := Aside0.mk (show Kd.R k92 92 w18 w0.heap.size (fun k_ => (P0_ k_ ∨ w.heap.size ≤ k_)) (.slice (some ⟨go6, 0, none⟩) x0_1.length co14) y207 from (by (with_reducible repeat (first | apply Kd.R_alloc | apply Kd.R_drewN | apply Kd.R_drew)); exact zB.out)); obtain ⟨ce19, hcl19, hM19, hcc19, hfr19⟩ := Kd.R_elem HX19.out z92 (x5_1 : Int) (of_decide_eq_true (by first | (with_reducible assumption) | assumption)) (by have h_ : (x5_1 : Int) < ((x0_1.length : Int) : Int) := of_decide_eq_true (by first | (with_reducible assumption) | assumption); first | exact h_ | (have e_ := (Kd.R_reads' zB.out).1; omega) | simpa using h_); obtain rfl := k92_openM hM19; have HP19 := Kd.R_seg HX19.out (x5_1 : Int) (of_decide_eq_true (by first | (with_reducible assumption) | assumption)) (by have h_ : (x5_1 : Int) < ((x0_1.length : Int) : Int) := of_decide_eq_true (by first | (with_reducible assumption) | assumption); first | exact h_ | (have e_ := (Kd.R_reads' zB.out).1; omega) | simpa using h_) (seg := [.string t208]) (j := 1) hcl19 hcc19 (show 2 ≤ 7 from by decide) (x' := (⟨(rd_T92 y207 x5_1).f0, t208, (rd_T92 y207 x5_1).f2, (rd_T92 y207 x5_1).f3, (rd_T92 y207 x5_1).f4, (rd_T92 y207 x5_1).f5, (rd_T92 y207 x5_1).f6⟩ : S92)) (k92_mkM _ _ _ (⟨(rd_T92 y207 x5_1).f0, t208, (rd_T92 y207 x5_1).f2, (rd_T92 y207 x5_1).f3, (rd_T92 y207 x5_1).f4, (rd_T92 y207 x5_1).f5, (rd_T92 y207 x5_1).f6⟩ : S92) ) (fun _ hk => hk); have hx19_1 := hcc19 1 _ rfl; (try simp only [show (k92).sz = 7 from rfl, Nat.mul_one, Nat.add_zero] at hx19_1); have hf19_1 := hfr19 1; (try simp only [show (k92).sz = 7 from rfl, Nat.mul_one, Nat.add_zero] at hf19_1); clear hcl19 hcc19 hfr19 hM19) | ((with_reducible refine gate_store (t := 9) (p := 25) rfl ?_); refine store_event (t := 9) (p := 25) (v := ?vo_w20) (w1 := (w18.setCell ⟨go6, (x5_1 : Int).toNat * 7 + 1, none⟩ (.string t208))) ?hg ?ho ?hn ?hr ?_; (case ho => rfl); (case hg => rfl); (case hn => rfl); (case hr => first | (go_simp; done) | (go_simp; rfl)); intro w20 hw; have hg : w18.grownBy w20 (some go6) := (by rw [hw]; exact HP19.2); have hp_ : Kd.R k92 92 w20 w0.heap.size (fun k_ => (P0_ k_ ∨ w.heap.size ≤ k_)) (.slice (some ⟨go6, 0, none⟩) x0_1.length co14) y209 := (by rw [hw, Ny209.out]; exact HP19.1); clear HP19; have n0_ := Aside0.mk (hp_); have n1_ := Aside0.mk ((by rw [hw]; exact zj (HB.out) GB6.out : Below w0.heap.size w0 w20)); have n2_ := Aside0.mk (Kept.of_grown (S := (fun k_ => P0_ k_)) hg (by repeat (first | (with_reducible first | exact HK.out | apply Kept.alloc | apply Kept.drewN | apply Kept.drew) | exact HK.out)) (fun k_ e_ => (zB.out.1 k_ e_))); clear zB; clear HB; clear HK; have zB := n0_; have HB := n1_; have HK := n2_; clear n0_ n1_ n2_; clear hg hw hp_; have p9 : 0 ≤ (x5_1 : Int) := of_decide_eq_true (by first | (with_reducible assumption) | assumption); have q9 : (x5_1 : Int) < ((x0_1.length : Int) : Int) := of_decide_eq_true (by first | (with_reducible assumption) | assumption); obtain ⟨ce9, hcl9, hM9, hcc9, hfr9⟩ := Kd.R_elem zB.out z92 (x5_1 : Int) p9 q9; obtain rfl := k92_openM hM9; have hx9_0 : w20.cell? ⟨go6, (x5_1 : Int).toNat * 7, none⟩ = some (.string ((rd_T92 y209 x5_1).f0)) := hcc9 0 _ rfl; have hx9_1 : w20.cell? ⟨go6, (x5_1 : Int).toNat * 7 + 1, none⟩ = some (.string ((rd_T92 y209 x5_1).f1)) := hcc9 1 _ rfl; have hx9_2 : w20.cell? ⟨go6, (x5_1 : Int).toNat * 7 + 2, none⟩ = some (.int .i64 ((rd_T92 y209 x5_1).f2)) := hcc9 2 _ rfl; have hx9_3 : w20.cell? ⟨go6, (x5_1 : Int).toNat * 7 + 3, none⟩ = some (.int .i64 ((rd_T92 y209 x5_1).f3)) := hcc9 3 _ rfl; have hx9_4 : w20.cell? ⟨go6, (x5_1 : Int).toNat * 7 + 4, none⟩ = some (.int .i64 ((rd_T92 y209 x5_1).f4)) := hcc9 4 _ rfl; have hx9_5 : w20.cell? ⟨go6, (x5_1 : Int).toNat * 7 + 5, none⟩ = some (.int .i64 ((rd_T92 y209 x5_1).f5)) := hcc9 5 _ rfl; have hx9_6 : w20.cell? ⟨go6, (x5_1 : Int).toNat * 7 + 6, none⟩ = some (.int .i64 ((rd_T92 y209 x5_1).f6)) := hcc9 6 _ rfl; have hf9_0 : w20.frozen? ⟨go6, (x5_1 : Int).toNat * 7, none⟩ = false := hfr9 0; have hf9_1 : w20.frozen? ⟨go6, (x5_1 : Int).toNat * 7 + 1, none⟩ = false := hfr9 1; have hf9_2 : w20.frozen? ⟨go6, (x5_1 : Int).toNat * 7 + 2, none⟩ = false := hfr9 2; have hf9_3 : w20.frozen? ⟨go6, (x5_1 : Int).toNat * 7 + 3, none⟩ = false := hfr9 3; have hf9_4 : w20.frozen? ⟨go6, (x5_1 : Int).toNat * 7 + 4, none⟩ = false := hfr9 4; have hf9_5 : w20.frozen? ⟨go6, (x5_1 : Int).toNat * 7 + 5, none⟩ = false := hfr9 5; have hf9_6 : w20.frozen? ⟨go6, (x5_1 : Int).toNat * 7 + 6, none⟩ = false := hfr9 6; clear hcl9 hcc9 hfr9 hM9; replace p9 := eq_true p9; replace q9 := eq_true q9; have HX21 := Aside0.mk (show Kd.R k92 92 w20 w0.heap.size (fun k_ => (P0_ k_ ∨ w.heap.size ≤ k_)) (.slice (some ⟨go6, 0, none⟩) x0_1.length co14) y209 from (by (with_reducible repeat (first | apply Kd.R_alloc | apply Kd.R_drewN | apply Kd.R_drew)); exact zB.out)); obtain ⟨ce21, hcl21, hM21, hcc21, hfr21⟩ := Kd.R_elem HX21.out z92 (x5_1 : Int) (of_decide_eq_true (by first | (with_reducible assumption) | assumption)) (by have h_ : (x5_1 : Int) < ((x0_1.length : Int) : Int) := of_decide_eq_true (by first | (with_reducible assumption) | assumption); first | exact h_ | (have e_ := (Kd.R_reads' zB.out).1; omega) | simpa using h_); obtain rfl := k92_openM hM21; have HP21 := Kd.R_seg HX21.out (x5_1 : Int) (of_decide_eq_true (by first | (with_reducible assumption) | assumption)) (by have h_ : (x5_1 : Int) < ((x0_1.length : Int) : Int) := of_decide_eq_true (by first | (with_reducible assumption) | assumption); first | exact h_ | (have e_ := (Kd.R_reads' zB.out).1; omega) | simpa using h_) (seg := [.int .i64 (wrap64 ((wrap64 (x1_1 + 1)) + 1))]) (j := 2) hcl21 hcc21 (show 3 ≤ 7 from by decide) (x' := (⟨(rd_T92 y209 x5_1).f0, (rd_T92 y209 x5_1).f1, wrap64 ((wrap64 (x1_1 + 1)) + 1), (rd_T92 y209 x5_1).f3, (rd_T92 y209 x5_1).f4, (rd_T92 y209 x5_1).f5, (rd_T92 y209 x5_1).f6⟩ : S92)) (k92_mkM _ _ _ (⟨(rd_T92 y209 x5_1).f0, (rd_T92 y209 x5_1).f1, wrap64 ((wrap64 (x1_1 + 1)) + 1), (rd_T92 y209 x5_1).f3, (rd_T92 y209 x5_1).f4, (rd_T92 y209 x5_1).f5, (rd_T92 y209 x5_1).f6⟩ : S92) ) (fun _ hk => hk); have hx21_2 := hcc21 2 _ rfl; (try simp only [show (k92).sz = 7 from rfl, Nat.mul_one, Nat.add_zero] at hx21_2); have hf21_2 := hfr21 2; (try simp only [show (k92).sz = 7 from rfl, Nat.mul_one, Nat.add_zero] at hf21_2); clear hcl21 hcc21 hfr21 hM21) | ((with_reducible refine gate_store (t := 2) (p := 32) rfl ?_); refine store_event (t := 2) (p := 32) (v := ?vo_w22) (w1 := (w20.setCell ⟨go6, (x5_1 : Int).toNat * 7 + 2, none⟩ (.int .i64 (wrap64 ((wrap64 (x1_1 + 1)) + 1))))) ?hg ?ho ?hn ?hr ?_; (case ho => rfl); (case hg => rfl); (case hn => rfl); (case hr => first | (go_simp; done) | (go_simp; rfl)); intro w22 hw; have hg : w20.grownBy w22 (some go6) := (by rw [hw]; exact HP21.2); have hp_ : Kd.R k92 92 w22 w0.heap.size (fun k_ => (P0_ k_ ∨ w.heap.size ≤ k_)) (.slice (some ⟨go6, 0, none⟩) x0_1.length co14) y210 := (by rw [hw, Ny210.out]; exact HP21.1); clear HP21; have n0_ := Aside0.mk (hp_); have n1_ := Aside0.mk ((by rw [hw]; exact zj (HB.out) GB6.out : Below w0.heap.size w0 w22)); have n2_ := Aside0.mk (Kept.of_grown (S := (fun k_ => P0_ k_)) hg (by repeat (first | (with_reducible first | exact HK.out | apply Kept.alloc | apply Kept.drewN | apply Kept.drew) | exact HK.out)) (fun k_ e_ => (zB.out.1 k_ e_))); clear zB; clear HB; clear HK; have zB := n0_; have HB := n1_; have HK := n2_; clear n0_ n1_ n2_; clear hg hw hp_; have p10 : 0 ≤ (x5_1 : Int) := of_decide_eq_true (by first | (with_reducible assumption) | assumption); have q10 : (x5_1 : Int) < ((x0_1.length : Int) : Int) := of_decide_eq_true (by first | (with_reducible assumption) | assumption); obtain ⟨ce10, hcl10, hM10, hcc10, hfr10⟩ := Kd.R_elem zB.out z92 (x5_1 : Int) p10 q10; obtain rfl := k92_openM hM10; have hx10_0 : w22.cell? ⟨go6, (x5_1 : Int).toNat * 7, none⟩ = some (.string ((rd_T92 y210 x5_1).f0)) := hcc10 0 _ rfl; have hx10_1 : w22.cell? ⟨go6, (x5_1 : Int).toNat * 7 + 1, none⟩ = some (.string ((rd_T92 y210 x5_1).f1)) := hcc10 1 _ rfl; have hx10_2 : w22.cell? ⟨go6, (x5_1 : Int).toNat * 7 + 2, none⟩ = some (.int .i64 ((rd_T92 y210 x5_1).f2)) := hcc10 2 _ rfl; have hx10_3 : w22.cell? ⟨go6, (x5_1 : Int).toNat * 7 + 3, none⟩ = some (.int .i64 ((rd_T92 y210 x5_1).f3)) := hcc10 3 _ rfl; have hx10_4 : w22.cell? ⟨go6, (x5_1 : Int).toNat * 7 + 4, none⟩ = some (.int .i64 ((rd_T92 y210 x5_1).f4)) := hcc10 4 _ rfl; have hx10_5 : w22.cell? ⟨go6, (x5_1 : Int).toNat * 7 + 5, none⟩ = some (.int .i64 ((rd_T92 y210 x5_1).f5)) := hcc10 5 _ rfl; have hx10_6 : w22.cell? ⟨go6, (x5_1 : Int).toNat * 7 + 6, none⟩ = some (.int .i64 ((rd_T92 y210 x5_1).f6)) := hcc10 6 _ rfl; have hf10_0 : w22.frozen? ⟨go6, (x5_1 : Int).toNat * 7, none⟩ = false := hfr10 0; have hf10_1 : w22.frozen? ⟨go6, (x5_1 : Int).toNat * 7 + 1, none⟩ = false := hfr10 1; have hf10_2 : w22.frozen? ⟨go6, (x5_1 : Int).toNat * 7 + 2, none⟩ = false := hfr10 2; have hf10_3 : w22.frozen? ⟨go6, (x5_1 : Int).toNat * 7 + 3, none⟩ = false := hfr10 3; have hf10_4 : w22.frozen? ⟨go6, (x5_1 : Int).toNat * 7 + 4, none⟩ = false := hfr10 4; have hf10_5 : w22.frozen? ⟨go6, (x5_1 : Int).toNat * 7 + 5, none⟩ = false := hfr10 5; have hf10_6 : w22.frozen? ⟨go6, (x5_1 : Int).toNat * 7 + 6, none⟩ = false := hfr10 6; clear hcl10 hcc10 hfr10 hM10; replace p10 := eq_true p10; replace q10 := eq_true q10; have HX23 := Aside0.mk (show Kd.R k92 92 w22 w0.heap.size (fun k_ => (P0_ k_ ∨ w.heap.size ≤ k_)) (.slice (some ⟨go6, 0, none⟩) x0_1.length co14) y210 from (by (with_reducible repeat (first | apply Kd.R_alloc | apply Kd.R_drewN | apply Kd.R_drew)); exact zB.out)); obtain ⟨ce23, hcl23, hM23, hcc23, hfr23⟩ := Kd.R_elem HX23.out z92 (x5_1 : Int) (of_decide_eq_true (by first | (with_reducible assumption) | assumption)) (by have h_ : (x5_1 : Int) < ((x0_1.length : Int) : Int) := of_decide_eq_true (by first | (with_reducible assumption) | assumption); first | exact h_ | (have e_ := (Kd.R_reads' zB.out).1; omega) | simpa using h_); obtain rfl := k92_openM hM23; have HP23 := Kd.R_seg HX23.out (x5_1 : Int) (of_decide_eq_true (by first | (with_reducible assumption) | assumption)) (by have h_ : (x5_1 : Int) < ((x0_1.length : Int) : Int) := of_decide_eq_true (by first | (with_reducible assumption) | assumption); first | exact h_ | (have e_ := (Kd.R_reads' zB.out).1; omega) | simpa using h_) (seg := [.int .i64 (wrap64 ((wrap64 ((wrap64 (x1_1 + 1)) + 1)) + 1))]) (j := 3) hcl23 hcc23 (show 4 ≤ 7 from by decide) (x' := (⟨(rd_T92 y210 x5_1).f0, (rd_T92 y210 x5_1).f1, (rd_T92 y210 x5_1).f2, wrap64 ((wrap64 ((wrap64 (x1_1 + 1)) + 1)) + 1), (rd_T92 y210 x5_1).f4, (rd_T92 y210 x5_1).f5, (rd_T92 y210 x5_1).f6⟩ : S92)) (k92_mkM _ _ _ (⟨(rd_T92 y210 x5_1).f0, (rd_T92 y210 x5_1).f1, (rd_T92 y210 x5_1).f2, wrap64 ((wrap64 ((wrap64 (x1_1 + 1)) + 1)) + 1), (rd_T92 y210 x5_1).f4, (rd_T92 y210 x5_1).f5, (rd_T92 y210 x5_1).f6⟩ : S92) ) (fun _ hk => hk); have hx23_3 := hcc23 3 _ rfl; (try simp only [show (k92).sz = 7 from rfl, Nat.mul_one, Nat.add_zero] at hx23_3); have hf23_3 := hfr23 3; (try simp only [show (k92).sz = 7 from rfl, Nat.mul_one, Nat.add_zero] at hf23_3); clear hcl23 hcc23 hfr23 hM23) | ((with_reducible refine gate_store (t := 2) (p := 39) rfl ?_); refine store_event (t := 2) (p := 39) (v := ?vo_w24) (w1 := (w22.setCell ⟨go6, (x5_1 : Int).toNat * 7 + 3, none⟩ (.int .i64 (wrap64 ((wrap64 ((wrap64 (x1_1 + 1)) + 1)) + 1))))) ?hg ?ho ?hn ?hr ?_; (case ho => rfl); (case hg => rfl); (case hn => rfl); (case hr => first | (go_simp; done) | (go_simp; rfl)); intro w24 hw; have hg : w22.grownBy w24 (some go6) := (by rw [hw]; exact HP23.2); have hp_ : Kd.R k92 92 w24 w0.heap.size (fun k_ => (P0_ k_ ∨ w.heap.size ≤ k_)) (.slice (some ⟨go6, 0, none⟩) x0_1.length co14) y211 := (by rw [hw, Ny211.out]; exact HP23.1); clear HP23; have n0_ := Aside0.mk (hp_); have n1_ := Aside0.mk ((by rw [hw]; exact zj (HB.out) GB6.out : Below w0.heap.size w0 w24)); have n2_ := Aside0.mk (Kept.of_grown (S := (fun k_ => P0_ k_)) hg (by repeat (first | (with_reducible first | exact HK.out | apply Kept.alloc | apply Kept.drewN | apply Kept.drew) | exact HK.out)) (fun k_ e_ => (zB.out.1 k_ e_))); clear zB; clear HB; clear HK; have zB := n0_; have HB := n1_; have HK := n2_; clear n0_ n1_ n2_; clear hg hw hp_; have p11 : 0 ≤ (x5_1 : Int) := of_decide_eq_true (by first | (with_reducible assumption) | assumption); have q11 : (x5_1 : Int) < ((x0_1.length : Int) : Int) := of_decide_eq_true (by first | (with_reducible assumption) | assumption); obtain ⟨ce11, hcl11, hM11, hcc11, hfr11⟩ := Kd.R_elem zB.out z92 (x5_1 : Int) p11 q11; obtain rfl := k92_openM hM11; have hx11_0 : w24.cell? ⟨go6, (x5_1 : Int).toNat * 7, none⟩ = some (.string ((rd_T92 y211 x5_1).f0)) := hcc11 0 _ rfl; have hx11_1 : w24.cell? ⟨go6, (x5_1 : Int).toNat * 7 + 1, none⟩ = some (.string ((rd_T92 y211 x5_1).f1)) := hcc11 1 _ rfl; have hx11_2 : w24.cell? ⟨go6, (x5_1 : Int).toNat * 7 + 2, none⟩ = some (.int .i64 ((rd_T92 y211 x5_1).f2)) := hcc11 2 _ rfl; have hx11_3 : w24.cell? ⟨go6, (x5_1 : Int).toNat * 7 + 3, none⟩ = some (.int .i64 ((rd_T92 y211 x5_1).f3)) := hcc11 3 _ rfl; have hx11_4 : w24.cell? ⟨go6, (x5_1 : Int).toNat * 7 + 4, none⟩ = some (.int .i64 ((rd_T92 y211 x5_1).f4)) := hcc11 4 _ rfl; have hx11_5 : w24.cell? ⟨go6, (x5_1 : Int).toNat * 7 + 5, none⟩ = some (.int .i64 ((rd_T92 y211 x5_1).f5)) := hcc11 5 _ rfl; have hx11_6 : w24.cell? ⟨go6, (x5_1 : Int).toNat * 7 + 6, none⟩ = some (.int .i64 ((rd_T92 y211 x5_1).f6)) := hcc11 6 _ rfl; have hf11_0 : w24.frozen? ⟨go6, (x5_1 : Int).toNat * 7, none⟩ = false := hfr11 0; have hf11_1 : w24.frozen? ⟨go6, (x5_1 : Int).toNat * 7 + 1, none⟩ = false := hfr11 1; have hf11_2 : w24.frozen? ⟨go6, (x5_1 : Int).toNat * 7 + 2, none⟩ = false := hfr11 2; have hf11_3 : w24.frozen? ⟨go6, (x5_1 : Int).toNat * 7 + 3, none⟩ = false := hfr11 3; have hf11_4 : w24.frozen? ⟨go6, (x5_1 : Int).toNat * 7 + 4, none⟩ = false := hfr11 4; have hf11_5 : w24.frozen? ⟨go6, (x5_1 : Int).toNat * 7 + 5, none⟩ = false := hfr11 5; have hf11_6 : w24.frozen? ⟨go6, (x5_1 : Int).toNat * 7 + 6, none⟩ = false := hfr11 6; clear hcl11 hcc11 hfr11 hM11; replace p11 := eq_true p11; replace q11 := eq_true q11; have HX25 := Aside0.mk (show Kd.R k92 92 w24 w0.heap.size (fun k_ => (P0_ k_ ∨ w.heap.size ≤ k_)) (.slice (some ⟨go6, 0, none⟩) x0_1.length co14) y211 from (by (with_reducible repeat (first | apply Kd.R_alloc | apply Kd.R_drewN | apply Kd.R_drew)); exact zB.out)); obtain ⟨ce25, hcl25, hM25, hcc25, hfr25⟩ := Kd.R_elem HX25.out z92 (x5_1 : Int) (of_decide_eq_true (by first | (with_reducible assumption) | assumption)) (by have h_ : (x5_1 : Int) < ((x0_1.length : Int) : Int) := of_decide_eq_true (by first | (with_reducible assumption) | assumption); first | exact h_ | (have e_ := (Kd.R_reads' zB.out).1; omega) | simpa using h_); obtain rfl := k92_openM hM25; have HP25 := Kd.R_seg HX25.out (x5_1 : Int) (of_decide_eq_true (by first | (with_reducible assumption) | assumption)) (by have h_ : (x5_1 : Int) < ((x0_1.length : Int) : Int) := of_decide_eq_true (by first | (with_reducible assumption) | assumption); first | exact h_ | (have e_ := (Kd.R_reads' zB.out).1; omega) | simpa using h_) (seg := [.int .i64 (wrap64 ((wrap64 ((wrap64 ((wrap64 (x1_1 + 1)) + 1)) + 1)) + 1))]) (j := 4) hcl25 hcc25 (show 5 ≤ 7 from by decide) (x' := (⟨(rd_T92 y211 x5_1).f0, (rd_T92 y211 x5_1).f1, (rd_T92 y211 x5_1).f2, (rd_T92 y211 x5_1).f3, wrap64 ((wrap64 ((wrap64 ((wrap64 (x1_1 + 1)) + 1)) + 1)) + 1), (rd_T92 y211 x5_1).f5, (rd_T92 y211 x5_1).f6⟩ : S92)) (k92_mkM _ _ _ (⟨(rd_T92 y211 x5_1).f0, (rd_T92 y211 x5_1).f1, (rd_T92 y211 x5_1).f2, (rd_T92 y211 x5_1).f3, wrap64 ((wrap64 ((wrap64 ((wrap64 (x1_1 + 1)) + 1)) + 1)) + 1), (rd_T92 y211 x5_1).f5, (rd_T92 y211 x5_1).f6⟩ : S92) ) (fun _ hk => hk); have hx25_4 := hcc25 4 _ rfl; (try simp only [show (k92).sz = 7 from rfl, Nat.mul_one, Nat.add_zero] at hx25_4); have hf25_4 := hfr25 4; (try simp only [show (k92).sz = 7 from rfl, Nat.mul_one, Nat.add_zero] at hf25_4); clear hcl25 hcc25 hfr25 hM25) | ((with_reducible refine gate_store (t := 2) (p := 46) rfl ?_); refine store_event (t := 2) (p := 46) (v := ?vo_w26) (w1 := (w24.setCell ⟨go6, (x5_1 : Int).toNat * 7 + 4, none⟩ (.int .i64 (wrap64 ((wrap64 ((wrap64 ((wrap64 (x1_1 + 1)) + 1)) + 1)) + 1))))) ?hg ?ho ?hn ?hr ?_; (case ho => rfl); (case hg => rfl); (case hn => rfl); (case hr => first | (go_simp; done) | (go_simp; rfl)); intro w26 hw; have hg : w24.grownBy w26 (some go6) := (by rw [hw]; exact HP25.2); have hp_ : Kd.R k92 92 w26 w0.heap.size (fun k_ => (P0_ k_ ∨ w.heap.size ≤ k_)) (.slice (some ⟨go6, 0, none⟩) x0_1.length co14) y212 := (by rw [hw, Ny212.out]; exact HP25.1); clear HP25; have n0_ := Aside0.mk (hp_); have n1_ := Aside0.mk ((by rw [hw]; exact zj (HB.out) GB6.out : Below w0.heap.size w0 w26)); have n2_ := Aside0.mk (Kept.of_grown (S := (fun k_ => P0_ k_)) hg (by repeat (first | (with_reducible first | exact HK.out | apply Kept.alloc | apply Kept.drewN | apply Kept.drew) | exact HK.out)) (fun k_ e_ => (zB.out.1 k_ e_))); clear zB; clear HB; clear HK; have zB := n0_; have HB := n1_; have HK := n2_; clear n0_ n1_ n2_; clear hg hw hp_; have p12 : 0 ≤ (x5_1 : Int) := of_decide_eq_true (by first | (with_reducible assumption) | assumption); have q12 : (x5_1 : Int) < ((x0_1.length : Int) : Int) := of_decide_eq_true (by first | (with_reducible assumption) | assumption); obtain ⟨ce12, hcl12, hM12, hcc12, hfr12⟩ := Kd.R_elem zB.out z92 (x5_1 : Int) p12 q12; obtain rfl := k92_openM hM12; have hx12_0 : w26.cell? ⟨go6, (x5_1 : Int).toNat * 7, none⟩ = some (.string ((rd_T92 y212 x5_1).f0)) := hcc12 0 _ rfl; have hx12_1 : w26.cell? ⟨go6, (x5_1 : Int).toNat * 7 + 1, none⟩ = some (.string ((rd_T92 y212 x5_1).f1)) := hcc12 1 _ rfl; have hx12_2 : w26.cell? ⟨go6, (x5_1 : Int).toNat * 7 + 2, none⟩ = some (.int .i64 ((rd_T92 y212 x5_1).f2)) := hcc12 2 _ rfl; have hx12_3 : w26.cell? ⟨go6, (x5_1 : Int).toNat * 7 + 3, none⟩ = some (.int .i64 ((rd_T92 y212 x5_1).f3)) := hcc12 3 _ rfl; have hx12_4 : w26.cell? ⟨go6, (x5_1 : Int).toNat * 7 + 4, none⟩ = some (.int .i64 ((rd_T92 y212 x5_1).f4)) := hcc12 4 _ rfl; have hx12_5 : w26.cell? ⟨go6, (x5_1 : Int).toNat * 7 + 5, none⟩ = some (.int .i64 ((rd_T92 y212 x5_1).f5)) := hcc12 5 _ rfl; have hx12_6 : w26.cell? ⟨go6, (x5_1 : Int).toNat * 7 + 6, none⟩ = some (.int .i64 ((rd_T92 y212 x5_1).f6)) := hcc12 6 _ rfl; have hf12_0 : w26.frozen? ⟨go6, (x5_1 : Int).toNat * 7, none⟩ = false := hfr12 0; have hf12_1 : w26.frozen? ⟨go6, (x5_1 : Int).toNat * 7 + 1, none⟩ = false := hfr12 1; have hf12_2 : w26.frozen? ⟨go6, (x5_1 : Int).toNat * 7 + 2, none⟩ = false := hfr12 2; have hf12_3 : w26.frozen? ⟨go6, (x5_1 : Int).toNat * 7 + 3, none⟩ = false := hfr12 3; have hf12_4 : w26.frozen? ⟨go6, (x5_1 : Int).toNat * 7 + 4, none⟩ = false := hfr12 4; have hf12_5 : w26.frozen? ⟨go6, (x5_1 : Int).toNat * 7 + 5, none⟩ = false := hfr12 5; have hf12_6 : w26.frozen? ⟨go6, (x5_1 : Int).toNat * 7 + 6, none⟩ = false := hfr12 6; clear hcl12 hcc12 hfr12 hM12; replace p12 := eq_true p12; replace q12 := eq_true q12; have HX27 := Aside0.mk (show Kd.R k92 92 w26 w0.heap.size (fun k_ => (P0_ k_ ∨ w.heap.size ≤ k_)) (.slice (some ⟨go6, 0, none⟩) x0_1.length co14) y212 from (by (with_reducible repeat (first | apply Kd.R_alloc | apply Kd.R_drewN | apply Kd.R_drew)); exact zB.out)); obtain ⟨ce27, hcl27, hM27, hcc27, hfr27⟩ := Kd.R_elem HX27.out z92 (x5_1 : Int) (of_decide_eq_true (by first | (with_reducible assumption) | assumption)) (by have h_ : (x5_1 : Int) < ((x0_1.length : Int) : Int) := of_decide_eq_true (by first | (with_reducible assumption) | assumption); first | exact h_ | (have e_ := (Kd.R_reads' zB.out).1; omega) | simpa using h_); obtain rfl := k92_openM hM27; have HP27 := Kd.R_seg HX27.out (x5_1 : Int) (of_decide_eq_true (by first | (with_reducible assumption) | assumption)) (by have h_ : (x5_1 : Int) < ((x0_1.length : Int) : Int) := of_decide_eq_true (by first | (with_reducible assumption) | assumption); first | exact h_ | (have e_ := (Kd.R_reads' zB.out).1; omega) | simpa using h_) (seg := [.int .i64 (wrap64 ((wrap64 ((wrap64 ((wrap64 ((wrap64 (x1_1 + 1)) + 1)) + 1)) + 1)) + 1))]) (j := 5) hcl27 hcc27 (show 6 ≤ 7 from by decide) (x' := (⟨(rd_T92 y212 x5_1).f0, (rd_T92 y212 x5_1).f1, (rd_T92 y212 x5_1).f2, (rd_T92 y212 x5_1).f3, (rd_T92 y212 x5_1).f4, wrap64 ((wrap64 ((wrap64 ((wrap64 ((wrap64 (x1_1 + 1)) + 1)) + 1)) + 1)) + 1), (rd_T92 y212 x5_1).f6⟩ : S92)) (k92_mkM _ _ _ (⟨(rd_T92 y212 x5_1).f0, (rd_T92 y212 x5_1).f1, (rd_T92 y212 x5_1).f2, (rd_T92 y212 x5_1).f3, (rd_T92 y212 x5_1).f4, wrap64 ((wrap64 ((wrap64 ((wrap64 ((wrap64 (x1_1 + 1)) + 1)) + 1)) + 1)) + 1), (rd_T92 y212 x5_1).f6⟩ : S92) ) (fun _ hk => hk); have hx27_5 := hcc27 5 _ rfl; (try simp only [show (k92).sz = 7 from rfl, Nat.mul_one, Nat.add_zero] at hx27_5); have hf27_5 := hfr27 5; (try simp only [show (k92).sz = 7 from rfl, Nat.mul_one, Nat.add_zero] at hf27_5); clear hcl27 hcc27 hfr27 hM27) | ((with_reducible refine gate_store (t := 2) (p := 53) rfl ?_); refine store_event (t := 2) (p := 53) (v := ?vo_w28) (w1 := (w26.setCell ⟨go6, (x5_1 : Int).toNat * 7 + 5, none⟩ (.int .i64 (wrap64 ((wrap64 ((wrap64 ((wrap64 ((wrap64 (x1_1 + 1)) + 1)) + 1)) + 1)) + 1))))) ?hg ?ho ?hn ?hr ?_; (case ho => rfl); (case hg => rfl); (case hn => rfl); (case hr => first | (go_simp; done) | (go_simp; rfl)); intro w28 hw; have hg : w26.grownBy w28 (some go6) := (by rw [hw]; exact HP27.2); have hp_ : Kd.R k92 92 w28 w0.heap.size (fun k_ => (P0_ k_ ∨ w.heap.size ≤ k_)) (.slice (some ⟨go6, 0, none⟩) x0_1.length co14) y213 := (by rw [hw, Ny213.out]; exact HP27.1); clear HP27; have n0_ := Aside0.mk (hp_); have n1_ := Aside0.mk ((by rw [hw]; exact zj (HB.out) GB6.out : Below w0.heap.size w0 w28)); have n2_ := Aside0.mk (Kept.of_grown (S := (fun k_ => P0_ k_)) hg (by repeat (first | (with_reducible first | exact HK.out | apply Kept.alloc | apply Kept.drewN | apply Kept.drew) | exact HK.out)) (fun k_ e_ => (zB.out.1 k_ e_))); clear zB; clear HB; clear HK; have zB := n0_; have HB := n1_; have HK := n2_; clear n0_ n1_ n2_; clear hg hw hp_; have p13 : 0 ≤ (x5_1 : Int) := of_decide_eq_true (by first | (with_reducible assumption) | assumption); have q13 : (x5_1 : Int) < ((x0_1.length : Int) : Int) := of_decide_eq_true (by first | (with_reducible assumption) | assumption); obtain ⟨ce13, hcl13, hM13, hcc13, hfr13⟩ := Kd.R_elem zB.out z92 (x5_1 : Int) p13 q13; obtain rfl := k92_openM hM13; have hx13_0 : w28.cell? ⟨go6, (x5_1 : Int).toNat * 7, none⟩ = some (.string ((rd_T92 y213 x5_1).f0)) := hcc13 0 _ rfl; have hx13_1 : w28.cell? ⟨go6, (x5_1 : Int).toNat * 7 + 1, none⟩ = some (.string ((rd_T92 y213 x5_1).f1)) := hcc13 1 _ rfl; have hx13_2 : w28.cell? ⟨go6, (x5_1 : Int).toNat * 7 + 2, none⟩ = some (.int .i64 ((rd_T92 y213 x5_1).f2)) := hcc13 2 _ rfl; have hx13_3 : w28.cell? ⟨go6, (x5_1 : Int).toNat * 7 + 3, none⟩ = some (.int .i64 ((rd_T92 y213 x5_1).f3)) := hcc13 3 _ rfl; have hx13_4 : w28.cell? ⟨go6, (x5_1 : Int).toNat * 7 + 4, none⟩ = some (.int .i64 ((rd_T92 y213 x5_1).f4)) := hcc13 4 _ rfl; have hx13_5 : w28.cell? ⟨go6, (x5_1 : Int).toNat * 7 + 5, none⟩ = some (.int .i64 ((rd_T92 y213 x5_1).f5)) := hcc13 5 _ rfl; have hx13_6 : w28.cell? ⟨go6, (x5_1 : Int).toNat * 7 + 6, none⟩ = some (.int .i64 ((rd_T92 y213 x5_1).f6)) := hcc13 6 _ rfl; have hf13_0 : w28.frozen? ⟨go6, (x5_1 : Int).toNat * 7, none⟩ = false := hfr13 0; have hf13_1 : w28.frozen? ⟨go6, (x5_1 : Int).toNat * 7 + 1, none⟩ = false := hfr13 1; have hf13_2 : w28.frozen? ⟨go6, (x5_1 : Int).toNat * 7 + 2, none⟩ = false := hfr13 2; have hf13_3 : w28.frozen? ⟨go6, (x5_1 : Int).toNat * 7 + 3, none⟩ = false := hfr13 3; have hf13_4 : w28.frozen? ⟨go6, (x5_1 : Int).toNat * 7 + 4, none⟩ = false := hfr13 4; have hf13_5 : w28.frozen? ⟨go6, (x5_1 : Int).toNat * 7 + 5, none⟩ = false := hfr13 5; have hf13_6 : w28.frozen? ⟨go6, (x5_1 : Int).toNat * 7 + 6, none⟩ = false := hfr13 6; clear hcl13 hcc13 hfr13 hM13; replace p13 := eq_true p13; replace q13 := eq_true q13; have HX29 := Aside0.mk (show Kd.R k92 92 w28 w0.heap.size (fun k_ => (P0_ k_ ∨ w.heap.size ≤ k_)) (.slice (some ⟨go6, 0, none⟩) x0_1.length co14) y213 from (by (with_reducible repeat (first | apply Kd.R_alloc | apply Kd.R_drewN | apply Kd.R_drew)); exact zB.out)); obtain ⟨ce29, hcl29, hM29, hcc29, hfr29⟩ := Kd.R_elem HX29.out z92 (x5_1 : Int) (of_decide_eq_true (by first | (with_reducible assumption) | assumption)) (by have h_ : (x5_1 : Int) < ((x0_1.length : Int) : Int) := of_decide_eq_true (by first | (with_reducible assumption) | assumption); first | exact h_ | (have e_ := (Kd.R_reads' zB.out).1; omega) | simpa using h_); obtain rfl := k92_openM hM29; have HP29 := Kd.R_seg HX29.out (x5_1 : Int) (of_decide_eq_true (by first | (with_reducible assumption) | assumption)) (by have h_ : (x5_1 : Int) < ((x0_1.length : Int) : Int) := of_decide_eq_true (by first | (with_reducible assumption) | assumption); first | exact h_ | (have e_ := (Kd.R_reads' zB.out).1; omega) | simpa using h_) (seg := [.int .i64 (wrap64 ((wrap64 ((wrap64 ((wrap64 ((wrap64 ((wrap64 (x1_1 + 1)) + 1)) + 1)) + 1)) + 1)) + 1))]) (j := 6) hcl29 hcc29 (show 7 ≤ 7 from by decide) (x' := (⟨(rd_T92 y213 x5_1).f0, (rd_T92 y213 x5_1).f1, (rd_T92 y213 x5_1).f2, (rd_T92 y213 x5_1).f3, (rd_T92 y213 x5_1).f4, (rd_T92 y213 x5_1).f5, wrap64 ((wrap64 ((wrap64 ((wrap64 ((wrap64 ((wrap64 (x1_1 + 1)) + 1)) + 1)) + 1)) + 1)) + 1)⟩ : S92)) (k92_mkM _ _ _ (⟨(rd_T92 y213 x5_1).f0, (rd_T92 y213 x5_1).f1, (rd_T92 y213 x5_1).f2, (rd_T92 y213 x5_1).f3, (rd_T92 y213 x5_1).f4, (rd_T92 y213 x5_1).f5, wrap64 ((wrap64 ((wrap64 ((wrap64 ((wrap64 ((wrap64 (x1_1 + 1)) + 1)) + 1)) + 1)) + 1)) + 1)⟩ : S92) ) (fun _ hk => hk); have hx29_6 := hcc29 6 _ rfl; (try simp only [show (k92).sz = 7 from rfl, Nat.mul_one, Nat.add_zero] at hx29_6); have hf29_6 := hfr29 6; (try simp only [show (k92).sz = 7 from rfl, Nat.mul_one, Nat.add_zero] at hf29_6); clear hcl29 hcc29 hfr29 hM29) | ((with_reducible refine gate_store (t := 2) (p := 60) rfl ?_); refine store_event (t := 2) (p := 60) (v := ?vo_w30) (w1 := (w28.setCell ⟨go6, (x5_1 : Int).toNat * 7 + 6, none⟩ (.int .i64 (wrap64 ((wrap64 ((wrap64 ((wrap64 ((wrap64 ((wrap64 (x1_1 + 1)) + 1)) + 1)) + 1)) + 1)) + 1))))) ?hg ?ho ?hn ?hr ?_; (case ho => rfl); (case hg => rfl); (case hn => rfl); (case hr => first | (go_simp; done) | (go_simp; rfl)); intro w30 hw; have hg : w28.grownBy w30 (some go6) := (by rw [hw]; exact HP29.2); have hp_ : Kd.R k92 92 w30 w0.heap.size (fun k_ => (P0_ k_ ∨ w.heap.size ≤ k_)) (.slice (some ⟨go6, 0, none⟩) x0_1.length co14) y214 := (by rw [hw, Ny214.out]; exact HP29.1); clear HP29; have n0_ := Aside0.mk (hp_); have n1_ := Aside0.mk ((by rw [hw]; exact zj (HB.out) GB6.out : Below w0.heap.size w0 w30)); have n2_ := Aside0.mk (Kept.of_grown (S := (fun k_ => P0_ k_)) hg (by repeat (first | (with_reducible first | exact HK.out | apply Kept.alloc | apply Kept.drewN | apply Kept.drew) | exact HK.out)) (fun k_ e_ => (zB.out.1 k_ e_))); clear zB; clear HB; clear HK; have zB := n0_; have HB := n1_; have HK := n2_; clear n0_ n1_ n2_; clear hg hw hp_))
     go_roundg k1
     case measure => have := HK1.out; omega
     case rel => exact ⟨(y214), (wrap64 ((wrap64 ((wrap64 ((wrap64 ((wrap64 ((wrap64 ((wrap64 (x1_1 + 1)) + 1)) + 1)) + 1)) + 1)) + 1)) + 1)), (wrap64 (x5_1 + 1)), (by first | rfl | (simp; done) | (simp [*]; done)), (by first | rfl | (simp; done) | (simp [*]; done)), H', ⟨by have := HK1.out; omega⟩, ⟨by (with_reducible repeat (first | apply Kd.R_alloc | apply Kd.R_drewN | apply Kd.R_drew)); exact zB.out⟩, ⟨by repeat (first | (with_reducible first | exact HK.out | apply Kept.alloc | apply Kept.drewN | apply Kept.drew) | exact HK.out)⟩, ⟨by repeat (first | (with_reducible first | exact HB.out | apply ze | apply zc | apply zd) | exact HB.out)⟩⟩
    ·rw [if_neg c5] at H
     exact absurd H (by simp)
   ·rw [if_neg c3] at H
    have c3b0 : decide (x5_1 < (x0_1.length : Int)) = false := decide_eq_false c3
    clear c3
    simp only [Option.some.injEq, Prod.mk.injEq] at H
    obtain ⟨rfl, rfl⟩ := H
    obtain ⟨Ao31, co31, eo31⟩ := Kd.R_slice zB.out
    subst eo31
    go_wp2
    go_ret
    exact ⟨by first | rfl | (simp [errW_none, errW_some] <;> rfl) | (simp [*, errW_none, errW_some] <;> rfl), by (with_reducible repeat (first | apply Kd.R_alloc | apply Kd.R_drewN | apply Kd.R_drew)); exact zB.out, by repeat (first | (with_reducible first | exact HB.out | apply ze | apply zc | apply zd) | exact HB.out), by repeat (first | (with_reducible first | exact HK.out | apply Kept.alloc | apply Kept.drewN | apply Kept.drew) | exact HK.out)⟩

def laws_markTree.f (k : Nat) (l0_0 : List (S92)) (a1 : Int) : Option (Int × (List (S92))) := (laws_markNodeS.f k l0_0 a1).bind fun bt216 => (some (bt216.1, bt216.2))
theorem laws_markTree.mono : ∀ a0 a1 k, LeO (laws_markTree.f k a0 a1) (laws_markTree.f (k + 1) a0 a1) := by
 intro a0 a1 k
 unfold laws_markTree.f
 repeat' first
   | (with_reducible exact laws_markNodeS.mono _ _ _)
   | (with_reducible exact LeO.refl _)
   | (with_reducible exact LeO.none _)
   | (with_reducible refine LeO.ite ?_ ?_)
   | (with_reducible refine LeO.bind ?_ (fun _ => ?_))
   | exact laws_markNodeS.mono _ _ _
   | exact LeO.none _
   | refine LeO.ite ?_ ?_
   | refine LeO.bind ?_ (fun _ => ?_)
set_option maxHeartbeats 8000000 in
set_option maxRecDepth 100000 in
theorem laws_markTree.calls (k : Nat) (P0_0_ : Nat → Prop) (u9000_ : Value) (l0_0 : List (S92)) (a1 : Int) (r1 : Int) (r2 : List (S92)) (w0 w : World) (hB : Below w0.heap.size w0 w) (zF : Kd.R k92 92 w w0.heap.size P0_0_ u9000_ l0_0) (h : laws_markTree.f k l0_0 a1 = some (r1, r2)) :
  Calls Tryd.prog 36 #[.agg #[u9000_], .int .i64 a1] w fun e w' => e = .returned (.int .i64 r1) ∧ Kd.R k92 92 w' w0.heap.size (fun k_ => (P0_0_ k_ ∨ w.heap.size ≤ k_)) u9000_ r2 ∧ Below w0.heap.size w0 w' ∧ Kept w w' (fun k_ => P0_0_ k_) := by
 have hu25 := Tryd.underlying25
 have zB := Aside0.mk (show Kd.R k92 92 w w0.heap.size (fun k_ => (P0_0_ k_ ∨ w.heap.size ≤ k_)) u9000_ l0_0 from Kd.R_mono zF (fun k_ hk => (.inl hk)))
 have HK := Aside0.mk (Kept.refl w (fun k_ => P0_0_ k_))
 have HW0 := Aside0.mk hB.size
 have HB := Aside0.mk hB
 clear hB
 have H : ((laws_markNodeS.f k l0_0 a1).bind fun bt216 => (some (bt216.1, bt216.2))) = some (r1, r2) := h
 clear h
 replace H := Option.bind_eq_some_iff.mp H
 obtain ⟨⟨t216, t217⟩, A30, H⟩ := H
 replace H : (some (t216, t217)) = some (r1, r2) := H
 have A3 := Aside0.mk A30
 clear A30
 simp only [Option.some.injEq, Prod.mk.injEq] at H
 obtain ⟨rfl, rfl⟩ := H
 obtain ⟨Ao4, co4, eo4⟩ := Kd.R_slice zB.out
 subst eo4
 go_enter Tryd.func36, Tryd.ntmps36
 go_wp2_with (first | ((with_reducible refine zv (N := 2) rfl ?_); refine zw ?hg (N := 2) ?hd (cs := #[.slice Ao4 l0_0.length co4]) (t := 25) ?hr ?_; (case hd => rfl); (case hg => rfl); (case hr => first | (go_simp; done) | (go_simp; rfl)); intro zD hg w5 hbox hb; have n0_ := Aside0.mk (Kd.R_below (by (with_reducible repeat (first | apply Kd.R_alloc | apply Kd.R_drewN | apply Kd.R_drew)); exact zB.out) hb); have n1_ := Aside0.mk (Kept.below (S := (fun k_ => P0_0_ k_)) (by repeat (first | (with_reducible first | exact HK.out | apply Kept.alloc | apply Kept.drewN | apply Kept.drew) | exact HK.out)) hb); have n2_ := Aside0.mk (zl (by repeat (first | (with_reducible first | exact HB.out | apply ze | apply zc | apply zd) | exact HB.out)) hb); have n3_ := Aside0.mk (hbox); have n4_ := Aside0.mk ((by rw [hg]; exact (by first | exact HK.out.1 | exact (show Kept w _ (fun k_ => P0_0_ k_) from by repeat (first | (with_reducible first | exact HK.out | apply Kept.alloc | apply Kept.drewN | apply Kept.drew) | exact HK.out)).1) : w.heap.size ≤ zD)); have n5_ := Aside0.mk ((by rw [hg]; exact (zm (by repeat (first | (with_reducible first | exact HB.out | apply ze | apply zc | apply zd) | exact HB.out))) : w0.heap.size ≤ zD)); clear zB; clear HK; clear HB; have zB := n0_; have HK := n1_; have HB := n2_; have zC := n3_; have GW215 := n4_; have zE := n5_; clear n0_ n1_ n2_ n3_ n4_ n5_; clear hb hbox hg; have zG : w5.cell? ⟨zD, 0, none⟩ = some (.slice Ao4 l0_0.length co4) := (zg zC.out 0).trans rfl; have zH := zf zC.out 0) | ((with_reducible refine zq (f := 100) rfl ?_); refine zz (some 8) rfl rfl Tryd.func100 (by kernel_rfl) rfl #[.slice Ao4 l0_0.length co4, .int .i64 a1] rfl (by (try simp only [List.map_toArray, List.map_cons, List.map_nil]); first | done | rfl | (simp only [List.length_drop, List.length_take]; rfl)) ?_; (with_reducible refine (laws_markNodeS.calls k (fun k_ => some k_ = (.slice Ao4 l0_0.length co4 : Value).ownBlock) (.slice Ao4 l0_0.length co4) l0_0 a1 t216 t217 w0 _ ?side1 ?side2 A3.out).mono ?_); (case side1 => repeat (first | (with_reducible first | exact HB.out | apply ze | apply zc | apply zd | refine zj ?_ zE.out) | exact HB.out)); (case side2 => exact Kd.R_tight rfl zB.out); rintro e w7 ⟨rfl, hy0, hb, hkp⟩; refine ⟨_, rfl, ?_⟩; have n0_ := Aside0.mk (Kd.R_reok rfl hy0 (fun k_ e_ => zB.out.1 k_ e_)); have n1_ := Aside0.mk (blk_kept (by (with_reducible repeat (first | refine zi ?_ _ | refine zk ?_ | refine zh ?_ _)); exact zC.out) hkp (fun hs_ => (fun e_ => (Kd.R_ne zB.out zC.out (by decide)) e_) hs_)); have n2_ := Aside0.mk (Kept.then_ (S := (fun k_ => P0_0_ k_)) (by repeat (first | (with_reducible first | exact HK.out | apply Kept.alloc | apply Kept.drewN | apply Kept.drew | refine Kept.setCell ?_ (.inr GW215.out) _) | exact HK.out)) hkp (fun k_ hs_ => (fun e_ => (zB.out.1 k_ e_.symm)) hs_)); have n3_ := Aside0.mk (hb); clear zB; clear zC; clear HK; clear HB; have zB := n0_; have zC := n1_; have HK := n2_; have HB := n3_; clear n0_ n1_ n2_ n3_; (try clear hb); (try clear hkp); (try clear hy0)))
 go_ret
 exact ⟨by first | rfl | (simp [errW_none, errW_some] <;> rfl) | (simp [*, errW_none, errW_some] <;> rfl), by (with_reducible repeat (first | apply Kd.R_alloc | apply Kd.R_drewN | apply Kd.R_drew)); exact zB.out, by repeat (first | (with_reducible first | exact HB.out | apply ze | apply zc | apply zd | refine zj ?_ zE.out) | exact HB.out), by repeat (first | (with_reducible first | exact HK.out | apply Kept.alloc | apply Kept.drewN | apply Kept.drew | refine Kept.setCell ?_ (.inr GW215.out) _) | exact HK.out)⟩

def laws_markTreeResult.f (k : Nat) (a0_0 : Bool) (l0_1 : List (S92)) (a1 : Int) : Option (Int × (List (S92))) := (laws_markTree.f k l0_1 a1).bind fun bt219 => (some (bt219.1, bt219.2))
theorem laws_markTreeResult.mono : ∀ a0 a1 a2 k, LeO (laws_markTreeResult.f k a0 a1 a2) (laws_markTreeResult.f (k + 1) a0 a1 a2) := by
 intro a0 a1 a2 k
 unfold laws_markTreeResult.f
 repeat' first
   | (with_reducible exact laws_markTree.mono _ _ _)
   | (with_reducible exact LeO.refl _)
   | (with_reducible exact LeO.none _)
   | (with_reducible refine LeO.ite ?_ ?_)
   | (with_reducible refine LeO.bind ?_ (fun _ => ?_))
   | exact laws_markTree.mono _ _ _
   | exact LeO.none _
   | refine LeO.ite ?_ ?_
   | refine LeO.bind ?_ (fun _ => ?_)
set_option maxHeartbeats 8000000 in
set_option maxRecDepth 100000 in
theorem laws_markTreeResult.calls (k : Nat) (a0_0 : Bool) (P0_1_ : Nat → Prop) (u9000_ : Value) (l0_1 : List (S92)) (a1 : Int) (r1 : Int) (r2 : List (S92)) (w0 w : World) (hB : Below w0.heap.size w0 w) (zF : Kd.R k92 92 w w0.heap.size P0_1_ u9000_ l0_1) (h : laws_markTreeResult.f k a0_0 l0_1 a1 = some (r1, r2)) :
  Calls Tryd.prog 17 #[.agg #[.bool a0_0, u9000_], .int .i64 a1] w fun e w' => e = .returned (.int .i64 r1) ∧ Kd.R k92 92 w' w0.heap.size (fun k_ => (P0_1_ k_ ∨ w.heap.size ≤ k_)) u9000_ r2 ∧ Below w0.heap.size w0 w' ∧ Kept w w' (fun k_ => P0_1_ k_) := by
 have hu27 := Tryd.underlying27
 have hu25 := Tryd.underlying25
 have zB := Aside0.mk (show Kd.R k92 92 w w0.heap.size (fun k_ => (P0_1_ k_ ∨ w.heap.size ≤ k_)) u9000_ l0_1 from Kd.R_mono zF (fun k_ hk => (.inl hk)))
 have HK := Aside0.mk (Kept.refl w (fun k_ => P0_1_ k_))
 have HW0 := Aside0.mk hB.size
 have HB := Aside0.mk hB
 clear hB
 have H : ((laws_markTree.f k l0_1 a1).bind fun bt219 => (some (bt219.1, bt219.2))) = some (r1, r2) := h
 clear h
 replace H := Option.bind_eq_some_iff.mp H
 obtain ⟨⟨t219, t220⟩, A30, H⟩ := H
 replace H : (some (t219, t220)) = some (r1, r2) := H
 have A3 := Aside0.mk A30
 clear A30
 simp only [Option.some.injEq, Prod.mk.injEq] at H
 obtain ⟨rfl, rfl⟩ := H
 obtain ⟨Ao4, co4, eo4⟩ := Kd.R_slice zB.out
 subst eo4
 go_enter Tryd.func17, Tryd.ntmps17
 go_wp2_with (first | ((with_reducible refine zv (N := 2) rfl ?_); refine zw ?hg (N := 2) ?hd (cs := #[.bool a0_0, .slice Ao4 l0_1.length co4]) (t := 27) ?hr ?_; (case hd => rfl); (case hg => rfl); (case hr => first | (go_simp; done) | (go_simp; rfl)); intro zD hg w5 hbox hb; have n0_ := Aside0.mk (Kd.R_below (by (with_reducible repeat (first | apply Kd.R_alloc | apply Kd.R_drewN | apply Kd.R_drew)); exact zB.out) hb); have n1_ := Aside0.mk (Kept.below (S := (fun k_ => P0_1_ k_)) (by repeat (first | (with_reducible first | exact HK.out | apply Kept.alloc | apply Kept.drewN | apply Kept.drew) | exact HK.out)) hb); have n2_ := Aside0.mk (zl (by repeat (first | (with_reducible first | exact HB.out | apply ze | apply zc | apply zd) | exact HB.out)) hb); have n3_ := Aside0.mk (hbox); have n4_ := Aside0.mk ((by rw [hg]; exact (by first | exact HK.out.1 | exact (show Kept w _ (fun k_ => P0_1_ k_) from by repeat (first | (with_reducible first | exact HK.out | apply Kept.alloc | apply Kept.drewN | apply Kept.drew) | exact HK.out)).1) : w.heap.size ≤ zD)); have n5_ := Aside0.mk ((by rw [hg]; exact (zm (by repeat (first | (with_reducible first | exact HB.out | apply ze | apply zc | apply zd) | exact HB.out))) : w0.heap.size ≤ zD)); clear zB; clear HK; clear HB; have zB := n0_; have HK := n1_; have HB := n2_; have zC := n3_; have GW218 := n4_; have zE := n5_; clear n0_ n1_ n2_ n3_ n4_ n5_; clear hb hbox hg; have zG : w5.cell? ⟨zD, 0, none⟩ = some (.bool a0_0) := (zg zC.out 0).trans rfl; have zH : w5.cell? ⟨zD, 1, none⟩ = some (.slice Ao4 l0_1.length co4) := (zg zC.out 1).trans rfl; have zI := zf zC.out 0; have zJ := zf zC.out 1) | ((with_reducible refine zq (f := 36) rfl ?_); refine zz (some 8) rfl rfl Tryd.func36 (by kernel_rfl) rfl #[.agg #[.slice Ao4 l0_1.length co4], .int .i64 a1] rfl (by (try simp only [List.map_toArray, List.map_cons, List.map_nil]); first | done | rfl | (simp only [List.length_drop, List.length_take]; rfl)) ?_; (with_reducible refine (laws_markTree.calls k (fun k_ => some k_ = (.slice Ao4 l0_1.length co4 : Value).ownBlock) (.slice Ao4 l0_1.length co4) l0_1 a1 t219 t220 w0 _ ?side1 ?side2 A3.out).mono ?_); (case side1 => repeat (first | (with_reducible first | exact HB.out | apply ze | apply zc | apply zd | refine zj ?_ zE.out) | exact HB.out)); (case side2 => exact Kd.R_tight rfl zB.out); rintro e w7 ⟨rfl, hy0, hb, hkp⟩; refine ⟨_, rfl, ?_⟩; have n0_ := Aside0.mk (Kd.R_reok rfl hy0 (fun k_ e_ => zB.out.1 k_ e_)); have n1_ := Aside0.mk (blk_kept (by (with_reducible repeat (first | refine zi ?_ _ | refine zk ?_ | refine zh ?_ _)); exact zC.out) hkp (fun hs_ => (fun e_ => (Kd.R_ne zB.out zC.out (by decide)) e_) hs_)); have n2_ := Aside0.mk (Kept.then_ (S := (fun k_ => P0_1_ k_)) (by repeat (first | (with_reducible first | exact HK.out | apply Kept.alloc | apply Kept.drewN | apply Kept.drew | refine Kept.setCell ?_ (.inr GW218.out) _) | exact HK.out)) hkp (fun k_ hs_ => (fun e_ => (zB.out.1 k_ e_.symm)) hs_)); have n3_ := Aside0.mk (hb); clear zB; clear zC; clear HK; clear HB; have zB := n0_; have zC := n1_; have HK := n2_; have HB := n3_; clear n0_ n1_ n2_ n3_; (try clear hb); (try clear hkp); (try clear hy0)))
 go_ret
 exact ⟨by first | rfl | (simp [errW_none, errW_some] <;> rfl) | (simp [*, errW_none, errW_some] <;> rfl), by (with_reducible repeat (first | apply Kd.R_alloc | apply Kd.R_drewN | apply Kd.R_drew)); exact zB.out, by repeat (first | (with_reducible first | exact HB.out | apply ze | apply zc | apply zd | refine zj ?_ zE.out) | exact HB.out), by repeat (first | (with_reducible first | exact HK.out | apply Kept.alloc | apply Kept.drewN | apply Kept.drew | refine Kept.setCell ?_ (.inr GW218.out) _) | exact HK.out)⟩

end Go.Proofs.YtjoafknckmoojaaDoor.GFnExactDecodeTree
