/- Written by give.py, a program of this session, that runs the kit's print and lays contracts proved by hand beside it. -/
import Derived.Test.YtfiojiokmkiflaaDoorGFnExactParseLinex0
import Derived.Test.YtfiojiokmkiflaaDoorHStep
namespace Go.Proofs.YtfiojiokmkiflaaDoor.GFnExactParseLine
open Go.Proofs.YtfiojiokmkiflaaDoorH (pu po ta pt ps p0 p1 bfin)
open Go.RowKit Go.Proofs.YtfiojiokmkiflaaDoorW.PrintWords Go.Proofs.YtfiojiokmkiflaaDoorW.PrintLast Go.Proofs.YtfiojiokmkiflaaDoorW.PrintMore
attribute [local go_sem] max2_int min2_int max_two min_two max_three min_three max_four min_four
attribute [local go_sem high] Go.Proofs.YtfiojiokmkiflaaDoorH.str_leq Go.Proofs.YtfiojiokmkiflaaDoorH.str_geq Go.Proofs.YtfiojiokmkiflaaDoorH.str_gtr   -- for this text's walks alone
set_option linter.unusedVariables false
set_option linter.unusedSimpArgs false

def laws_toByteS.l0 : Nat → List Int → List Int → Int → Option (List Int)
 | 0, _, _, _ => none
 | k + 1, x0, x3, x4 => if x4 < (x0.length : Int) then (if 0 ≤ x4 then (if x4 < (x3.length : Int) then (laws_toByteS.l0 k x0 (x3.set (x4 : Int).toNat (rd x0 x4)) (wrap64 (x4 + 1))) else (none)) else (none)) else (some x3)
def laws_toByteS.f (k : Nat) (l0 : List Int) : Option (List Int) := if 0 ≤ (l0.length : Int) then (if ((l0.length : Int) : Int).toNat ≤ 281474976710656 then (laws_toByteS.l0 k l0 (List.replicate ((l0.length : Int) : Int).toNat 0) 0) else (none)) else (none)
theorem laws_toByteS.mono_l : ∀ k, (∀ y0 y1 y2, LeO (laws_toByteS.l0 k y0 y1 y2) (laws_toByteS.l0 (k + 1) y0 y1 y2))
 | 0 => fun _ _ _ r h => by simp [laws_toByteS.l0] at h
 | k + 1 => by
  have ih0 := laws_toByteS.mono_l k
  ·intro y0 y1 y2
   unfold laws_toByteS.l0
   repeat' first
   | (with_reducible exact ih0 _ _ _)
   | (with_reducible exact LeO.refl _)
   | (with_reducible exact LeO.none _)
   | (with_reducible refine LeO.ite ?_ ?_)
   | (with_reducible refine LeO.bind ?_ (fun _ => ?_))
   | exact ih0 _ _ _
   | exact LeO.none _
   | refine LeO.ite ?_ ?_
   | refine LeO.bind ?_ (fun _ => ?_)
theorem laws_toByteS.mono : ∀ a0 k, LeO (laws_toByteS.f k a0) (laws_toByteS.f (k + 1) a0) := by
 intro a0 k
 have ih0 := laws_toByteS.mono_l k
 unfold laws_toByteS.f
 repeat' first
   | (with_reducible exact ih0 _ _ _)
   | (with_reducible exact LeO.refl _)
   | (with_reducible exact LeO.none _)
   | (with_reducible refine LeO.ite ?_ ?_)
   | (with_reducible refine LeO.bind ?_ (fun _ => ?_))
   | exact ih0 _ _ _
   | exact LeO.none _
   | refine LeO.ite ?_ ?_
   | refine LeO.bind ?_ (fun _ => ?_)
set_option maxHeartbeats 8000000 in
set_option maxRecDepth 100000 in
theorem laws_toByteS.calls (k : Nat) (A0 : Option Addr) (c0 : Nat) (l0 : List Int) (r : List Int) (w : World) (hr0 : Kd.C (Kd.int .u8) w A0 l0.length l0) (hc0 : l0.length ≤ c0) (h : laws_toByteS.f k l0 = some r) :
  Calls Tryd.prog 28 #[.slice A0 l0.length c0] w fun e w' => ∃ v0_ : Value, e = .returned (v0_) ∧ Kd.R (Kd.int .u8) 5 w' w.heap.size (fun _ => True) v0_ r ∧ Below w.heap.size w w' := by
 have HR0 := Aside0.mk hr0
 have HC0 := Aside0.mk hc0
 clear hr0 hc0
 have HB := Aside0.mk (Below.refl w.heap.size w)
 have H : (if 0 ≤ (l0.length : Int) then (if ((l0.length : Int) : Int).toNat ≤ 281474976710656 then (laws_toByteS.l0 k l0 (List.replicate ((l0.length : Int) : Int).toNat 0) 0) else (none)) else (none)) = some r := h
 clear h
 by_cases c2 : 0 ≤ (l0.length : Int)
 ·rw [if_pos c2] at H
  have c2b0 := eq_true c2
  have c2b1 : decide (0 ≤ (l0.length : Int)) = true := decide_eq_true c2
  clear c2
  by_cases c3 : ((l0.length : Int) : Int).toNat ≤ 281474976710656
  ·rw [if_pos c3] at H
   have c3b0 := eq_true c3
   have c3b1 : decide (((l0.length : Int) : Int).toNat ≤ 281474976710656) = true := decide_eq_true c3
   clear c3
   obtain ⟨y241, hy241⟩ : ∃ y_ : List Int, y_ = (List.replicate ((l0.length : Int) : Int).toNat 0) := ⟨_, rfl⟩
   replace H : (laws_toByteS.l0 k l0 y241 0) = some r := by first | (rw [hy241]; with_reducible exact H) | (have H2_ := (Option.bind_some _ _).symm.trans H; rw [hy241]; with_reducible exact H2_) | (have H2_ := (Option.bind_some _ _).symm.trans H; with_reducible exact H2_) | with_reducible exact H | (rw [hy241]; exact H) | exact H
   have Ny241 := Aside0.mk hy241
   clear hy241
   have H' := Aside0.mk H
   clear H
   go_enter Tryd.func28, Tryd.ntmps28
   go_wp2_with (first | ((with_reducible refine zu (N := 7) rfl ?_); refine Kd.R_make (Kd.int .u8) _ 5 rfl (N := 7) rfl 22 _ _ rfl (l0.length : Int) rfl rfl Tryd.underlying22 (.int .u8 0) 1 info5 rfl (by decide) (by omega) 0 (ok := fun _ => True) (okp := fun _ => True) rfl (fun _ hk => hk) trivial (of_decide_eq_true (by with_reducible assumption)) (Nat.le_trans (Nat.mul_le_mul_right _ (of_decide_eq_true (by with_reducible assumption) : (l0.length : Int).toNat ≤ 281474976710656)) (by omega)) (Below.refl _ _) (Nat.le_refl _) ?_; intro v242 w4 zD hb hg_ hnew_; clear hg_ hnew_; (first | rw [← Ny241.out] at zD | (simp only [Int.reduceToNat] at zD; rw [← Ny241.out] at zD)); have n0_ := Aside0.mk (Kd.R_lower zD (zn (by exact bl HB.out))); have n1_ := Aside0.mk (zm (by exact bl HB.out) hb); clear HB; have zE := n0_; have HB := n1_; clear n0_ n1_; clear hb zD))
   go_loopg [4] k (fun kq v4 w' => ∃ (x3_1 : List Int) (x4_1 : Int), v4 = .int .i64 x4_1 ∧ Aside0 (laws_toByteS.l0 kq l0 x3_1 x4_1 = some r) ∧ Aside0 (kq ≤ k) ∧ Aside0 (Kd.R (Kd.int .u8) 5 w' w.heap.size (fun _ => True) v242 x3_1) ∧ Aside0 (Below w.heap.size w w'))
   case atStart => exact ⟨(y241), (0), (by first | rfl | (simp [*]; done)), H', ⟨Nat.le_refl _⟩, ⟨RL zE.out⟩, ⟨by repeat (first | (with_reducible first | exact HB.out | apply zh | apply zd | apply zi) | exact HB.out)⟩⟩
   case round =>
    clear H'
    try clear c2
    try clear c2b0
    try clear c2b1
    try clear p2
    try clear c3
    try clear c3b0
    try clear c3b1
    obtain ⟨x3_1, x4_1, rfl, HA, HK1, zC, HB⟩ := hrel
    cases gk with
    | zero => exact absurd HA.out (by simp [laws_toByteS.l0])
    | succ k1 =>
     have H := HA.out
     clear HA
     simp only [laws_toByteS.l0] at H
     by_cases c6 : x4_1 < (l0.length : Int)
     ·rw [if_pos c6] at H
      have c6b0 : decide (x4_1 < (l0.length : Int)) = true := decide_eq_true c6
      clear c6
      by_cases c7 : 0 ≤ x4_1
      ·rw [if_pos c7] at H
       have c7b0 : decide (0 ≤ x4_1) = true := decide_eq_true c7
       clear c7
       by_cases c8 : x4_1 < (x3_1.length : Int)
       ·rw [if_pos c8] at H
        have c8b0 : decide (x4_1 < (x3_1.length : Int)) = true := decide_eq_true c8
        clear c8
        obtain ⟨y245, hy245⟩ : ∃ y_ : List Int, y_ = (x3_1.set (x4_1 : Int).toNat (rd l0 x4_1)) := ⟨_, rfl⟩
        replace H : (laws_toByteS.l0 k1 l0 y245 (wrap64 (x4_1 + 1))) = some r := by first | (rw [hy245]; with_reducible exact H) | (have H2_ := (Option.bind_some _ _).symm.trans H; rw [hy245]; with_reducible exact H2_) | (have H2_ := (Option.bind_some _ _).symm.trans H; with_reducible exact H2_) | with_reducible exact H | (rw [hy245]; exact H) | exact H
        have Ny245 := Aside0.mk hy245
        clear hy245
        have H' := Aside0.mk H
        clear H
        have p244 : 0 ≤ (x4_1 : Int) := of_decide_eq_true (by with_reducible assumption)
        have q244 : x4_1 < (l0.length : Int) := of_decide_eq_true (by with_reducible assumption)
        obtain ⟨ad244, e244, hx244_0⟩ := Kd.at_int HR0.out x4_1 p244 q244
        cases e244
        replace hx244_0 := zk HB.out hx244_0
        replace p244 := eq_true p244
        replace q244 := eq_true q244
        have p9 : 0 ≤ (x4_1 : Int) := of_decide_eq_true (by with_reducible assumption)
        have q9 : (x4_1 : Int) < ((x3_1.length : Int) : Int) := of_decide_eq_true (by with_reducible assumption)
        obtain ⟨go9, co9, eo9, zF, gl9, cl9, HG9⟩ := Kd.R_form zC.out (by omega)
        (first | cases eo9 | (injection eo9 with ea_ en_ ec_; (first | subst ea_ | (injection ea_ with ea_; subst ea_)); subst ec_; clear en_))
        have GB9 := Aside0.mk zF
        have GG9 := Aside0.mk HG9
        clear zF gl9 HG9
        obtain ⟨hx9_0, hf9_0⟩ := Kd.R_celln 0 zC.out (x4_1 : Int) p9 q9
        replace p9 := eq_true p9
        replace q9 := eq_true q9
        have HP10 := Kd.R_putg zC.out (x4_1 : Int) (rd l0 x4_1)
        go_wp2_with (first | ((with_reducible refine gate_store (t := 5) (p := 20) rfl ?_); refine store_event (t := 5) (p := 20) (v := ?vo_w11) (w1 := (wr.setCell ⟨go9, (x4_1 : Int).toNat, none⟩ (.int .u8 (rd l0 x4_1)))) ?hg ?ho ?hn ?hr ?_; (case ho => rfl); (case hg => rfl); (case hn => rfl); (case hr => first | (go_simp; done) | (go_simp; rfl)); intro w11 hw; have hg : wr.grownBy w11 (some go9) := (by rw [hw]; exact HP10.2); have hp_ : Kd.R (Kd.int .u8) 5 w11 w.heap.size (fun _ => True) (.slice (some ⟨go9, 0, none⟩) x3_1.length co9) y245 := (by rw [hw, Ny245.out]; exact HP10.1); clear HP10; have n0_ := Aside0.mk (hp_); have n1_ := Aside0.mk ((by rw [hw]; exact zl (HB.out) GB9.out : Below w.heap.size w w11)); clear zC; clear HB; have zC := n0_; have HB := n1_; clear n0_ n1_; clear hg hw hp_))
        go_roundg k1
        case measure => have := HK1.out; omega
        case rel => exact ⟨(y245), (wrap64 (x4_1 + 1)), (by first | rfl | (simp [*]; done)), H', ⟨by have := HK1.out; omega⟩, ⟨RL zC.out⟩, ⟨by repeat (first | (with_reducible first | exact HB.out | apply zh | apply zd | apply zi) | exact HB.out)⟩⟩
       ·rw [if_neg c8] at H
        exact absurd H (by simp)
      ·rw [if_neg c7] at H
       exact absurd H (by simp)
     ·rw [if_neg c6] at H
      have c6b0 : decide (x4_1 < (l0.length : Int)) = false := decide_eq_false c6
      clear c6
      obtain rfl := Option.some.inj H
      go_wp2
      go_ret
      exact ⟨_, by first | rfl | (simp [*] <;> rfl), RL zC.out, by repeat (first | (with_reducible first | exact HB.out | apply zh | apply zd | apply zi) | exact HB.out)⟩
  ·rw [if_neg c3] at H
   exact absurd H (by simp)
 ·rw [if_neg c2] at H
  exact absurd H (by simp)

def strings_Split.f (a0 : ByteArray) (a1 : ByteArray) : Option (List ByteArray) := if a0.size < 4294967281 ∧ 1 ≤ a1.size ∧ Go.Lib.countB a0 a1 ≤ 1000000 then some (Go.Lib.splitB a1 0 (Go.Lib.countB a0 a1) a0) else none
theorem split_len (sep : ByteArray) (h1 : 1 ≤ sep.size) : ∀ (n : Nat) (s : ByteArray), s.size ≤ n → (Go.Lib.splitB sep 0 (Go.Lib.countB s sep) s).length = Go.Lib.countB s sep + 1 := by
 intro n
 induction n with
 | zero =>
  intro s hs
  rcases Go.Lib.indexB_cases s sep with hix | ⟨i, hix, hroom⟩
  ·rw [Go.Lib.countB_miss s sep hix]; rfl
  ·omega
 | succ n ih =>
  intro s hs
  rcases Go.Lib.indexB_cases s sep with hix | ⟨i, hix, hroom⟩
  ·rw [Go.Lib.countB_miss s sep hix]; rfl
  ·rw [Go.Lib.countB_hit s sep i h1 hix, Nat.add_comm 1, Go.Lib.splitB_hit sep 0 _ s i hix, List.length_cons, ih _ (by simp only [ByteArray.size_extract]; omega)]
set_option maxRecDepth 100000 in
theorem strings_Split.calls (a0 : ByteArray) (a1 : ByteArray) (r : List ByteArray) (w : World) (h : strings_Split.f a0 a1 = some r) (hGMAX_ : Go.Proofs.YtfiojiokmkiflaaDoorH.GFMAX w) :
  Calls Tryd.prog 77 #[.string a0, .string a1] w fun e w' => ∃ v0_ : Value, e = .returned (v0_) ∧ Kd.R Kd.string 9 w' w.heap.size (fun _ => True) v0_ r ∧ Below w.heap.size w w' := by
 unfold strings_Split.f at h
 by_cases hc : a0.size < 4294967281 ∧ 1 ≤ a1.size ∧ Go.Lib.countB a0 a1 ≤ 1000000
 ·rw [if_pos hc] at h
  obtain rfl := Option.some.inj h
  obtain ⟨m, hm⟩ := hGMAX_
  have hl := split_len a1 hc.2.1 a0.size a0 (Nat.le_refl _)
  refine (Go.Proofs.Tryd.strings_Split a0 a1 m w hc.1 hm hc.2.1).mono ?_
  rintro e w' ⟨rfl, rfl⟩
  refine ⟨_, rfl, ?_, zh (Below.refl _ _) _⟩
  rw [← hl]
  exact Go.Proofs.YtfiojiokmkiflaaDoorH.R_of_arr Value.string (fun _ => rfl) (ok := fun _ => True) (blk_new w _) (Nat.le_refl _) trivial (by omega) (by omega)
 ·rw [if_neg hc] at h
  cases h

def slices_Index_string_string.l0 : Nat → List ByteArray → ByteArray → Int → Int → Option (Int)
 | 0, _, _, _, _ => none
 | k + 1, x0, x1, x7, x8 => if x8 < x7 then (if 0 ≤ x8 then (if x8 < (x0.length : Int) then (if x1.toList = (rdOf ByteArray.empty x0 x8).toList then (some x8) else (slices_Index_string_string.l0 k x0 x1 x7 (wrap64 (x8 + 1)))) else (none)) else (none)) else (some (-1))
def slices_Index_string_string.f (k : Nat) (l0 : List ByteArray) (a1 : ByteArray) : Option (Int) := slices_Index_string_string.l0 k l0 a1 (l0.length : Int) 0
theorem slices_Index_string_string.mono_l : ∀ k, (∀ y0 y1 y2 y3, LeO (slices_Index_string_string.l0 k y0 y1 y2 y3) (slices_Index_string_string.l0 (k + 1) y0 y1 y2 y3))
 | 0 => fun _ _ _ _ r h => by simp [slices_Index_string_string.l0] at h
 | k + 1 => by
  have ih0 := slices_Index_string_string.mono_l k
  ·intro y0 y1 y2 y3
   unfold slices_Index_string_string.l0
   repeat' first
   | (with_reducible exact ih0 _ _ _ _)
   | (with_reducible exact LeO.refl _)
   | (with_reducible exact LeO.none _)
   | (with_reducible refine LeO.ite ?_ ?_)
   | (with_reducible refine LeO.bind ?_ (fun _ => ?_))
   | exact ih0 _ _ _ _
   | exact LeO.none _
   | refine LeO.ite ?_ ?_
   | refine LeO.bind ?_ (fun _ => ?_)
theorem slices_Index_string_string.mono : ∀ a0 a1 k, LeO (slices_Index_string_string.f k a0 a1) (slices_Index_string_string.f (k + 1) a0 a1) := by
 intro a0 a1 k
 have ih0 := slices_Index_string_string.mono_l k
 unfold slices_Index_string_string.f
 repeat' first
   | (with_reducible exact ih0 _ _ _ _)
   | (with_reducible exact LeO.refl _)
   | (with_reducible exact LeO.none _)
   | (with_reducible refine LeO.ite ?_ ?_)
   | (with_reducible refine LeO.bind ?_ (fun _ => ?_))
   | exact ih0 _ _ _ _
   | exact LeO.none _
   | refine LeO.ite ?_ ?_
   | refine LeO.bind ?_ (fun _ => ?_)
set_option maxHeartbeats 8000000 in
set_option maxRecDepth 100000 in
theorem slices_Index_string_string.calls (k : Nat) (A0 : Option Addr) (c0 : Nat) (l0 : List ByteArray) (a1 : ByteArray) (r : Int) (w : World) (hr0 : Kd.C Kd.string w A0 l0.length l0) (hc0 : l0.length ≤ c0) (h : slices_Index_string_string.f k l0 a1 = some r) :
  Calls Tryd.prog 186 #[.slice A0 l0.length c0, .string a1] w fun e w' => e = .returned (.int .i64 r) ∧ Drawn0 w w' := by
 have HR0 := Aside0.mk hr0
 have HC0 := Aside0.mk hc0
 clear hr0 hc0
 have H : (slices_Index_string_string.l0 k l0 a1 (l0.length : Int) 0) = some r := h
 clear h
 have H' := Aside0.mk H
 clear H
 go_enter Tryd.func186, Tryd.ntmps186
 go_wp2
 go_loopg [8] k (fun kq v8 w' => ∃ (x8_1 : Int), v8 = .int .i64 x8_1 ∧ Aside0 (slices_Index_string_string.l0 kq l0 a1 (l0.length : Int) x8_1 = some r) ∧ Aside0 (kq ≤ k) ∧ Drawn0 w w')
 case atStart => exact ⟨(0), (by first | rfl | (simp [*]; done)), H', ⟨Nat.le_refl _⟩, by repeat (first | exact Drawn0.refl _ | apply Drawn0.step)⟩
 case round =>
  clear H'
  try clear c1
  try clear p2
  obtain ⟨x8_1, rfl, HA, HK1, ⟨m1, rfl⟩⟩ := hrel
  cases gk with
  | zero => exact absurd HA.out (by simp [slices_Index_string_string.l0])
  | succ k1 =>
   have H := HA.out
   clear HA
   simp only [slices_Index_string_string.l0] at H
   by_cases c3 : x8_1 < (l0.length : Int)
   ·rw [if_pos c3] at H
    have c3b0 : decide (x8_1 < (l0.length : Int)) = true := decide_eq_true c3
    clear c3
    by_cases c4 : 0 ≤ x8_1
    ·rw [if_pos c4] at H
     have c4b0 : decide (0 ≤ x8_1) = true := decide_eq_true c4
     clear c4
     by_cases c5 : x8_1 < (l0.length : Int)
     ·rw [if_pos c5] at H
      have c5b0 : decide (x8_1 < (l0.length : Int)) = true := decide_eq_true c5
      clear c5
      by_cases c6 : a1.toList = (rdOf ByteArray.empty l0 x8_1).toList
      ·rw [if_pos c6] at H
       have c6b0 : (a1.toList == (rdOf ByteArray.empty l0 x8_1).toList) = true := beq_iff_eq.mpr c6
       have c6b1 : (a1.toList != (rdOf ByteArray.empty l0 x8_1).toList) = false := bne_eq_false_iff_eq.mpr c6
       clear c6
       obtain rfl := Option.some.inj H
       have p246 : 0 ≤ (x8_1 : Int) := of_decide_eq_true (by with_reducible assumption)
       have q246 : x8_1 < (l0.length : Int) := of_decide_eq_true (by with_reducible assumption)
       obtain ⟨ad246, e246, hx246_0⟩ := Kd.at_string HR0.out x8_1 p246 q246
       cases e246
       replace p246 := eq_true p246
       replace q246 := eq_true q246
       go_wp2
       go_ret
       exact ⟨by first | rfl | (simp; done) | (simp [*]; done), by repeat (first | exact Drawn0.refl _ | apply Drawn0.step)⟩
      ·rw [if_neg c6] at H
       have c6b0 : (a1.toList == (rdOf ByteArray.empty l0 x8_1).toList) = false := beq_eq_false_iff_ne.mpr c6
       have c6b1 : (a1.toList != (rdOf ByteArray.empty l0 x8_1).toList) = true := bne_iff_ne.mpr c6
       have H' := Aside0.mk H
       clear H
       have p246 : 0 ≤ (x8_1 : Int) := of_decide_eq_true (by with_reducible assumption)
       have q246 : x8_1 < (l0.length : Int) := of_decide_eq_true (by with_reducible assumption)
       obtain ⟨ad246, e246, hx246_0⟩ := Kd.at_string HR0.out x8_1 p246 q246
       cases e246
       replace p246 := eq_true p246
       replace q246 := eq_true q246
       go_wp2
       go_roundg k1
       case measure => have := HK1.out; omega
       case rel => exact ⟨(wrap64 (x8_1 + 1)), (by first | rfl | (simp [*]; done)), H', ⟨by have := HK1.out; omega⟩, by repeat (first | exact Drawn0.refl _ | apply Drawn0.step)⟩
     ·rw [if_neg c5] at H
      exact absurd H (by simp)
    ·rw [if_neg c4] at H
     exact absurd H (by simp)
   ·rw [if_neg c3] at H
    have c3b0 : decide (x8_1 < (l0.length : Int)) = false := decide_eq_false c3
    clear c3
    obtain rfl := Option.some.inj H
    go_wp2
    go_ret
    exact ⟨by first | rfl | (simp; done) | (simp [*]; done), by repeat (first | exact Drawn0.refl _ | apply Drawn0.step)⟩

def slices_Contains_string_string.f (k : Nat) (l0 : List ByteArray) (a1 : ByteArray) : Option (Bool) := (slices_Index_string_string.f k l0 a1).bind fun t247 => (some (decide (t247 ≥ 0)))
theorem slices_Contains_string_string.mono : ∀ a0 a1 k, LeO (slices_Contains_string_string.f k a0 a1) (slices_Contains_string_string.f (k + 1) a0 a1) := by
 intro a0 a1 k
 unfold slices_Contains_string_string.f
 repeat' first
   | (with_reducible exact slices_Index_string_string.mono _ _ _)
   | (with_reducible exact LeO.refl _)
   | (with_reducible exact LeO.none _)
   | (with_reducible refine LeO.ite ?_ ?_)
   | (with_reducible refine LeO.bind ?_ (fun _ => ?_))
   | exact slices_Index_string_string.mono _ _ _
   | exact LeO.none _
   | refine LeO.ite ?_ ?_
   | refine LeO.bind ?_ (fun _ => ?_)
set_option maxHeartbeats 8000000 in
set_option maxRecDepth 100000 in
theorem slices_Contains_string_string.calls (k : Nat) (A0 : Option Addr) (c0 : Nat) (l0 : List ByteArray) (a1 : ByteArray) (r : Bool) (w : World) (hr0 : Kd.C Kd.string w A0 l0.length l0) (hc0 : l0.length ≤ c0) (h : slices_Contains_string_string.f k l0 a1 = some r) :
  Calls Tryd.prog 160 #[.slice A0 l0.length c0, .string a1] w fun e w' => e = .returned (.bool r) ∧ Drawn0 w w' := by
 have HR0 := Aside0.mk hr0
 have HC0 := Aside0.mk hc0
 clear hr0 hc0
 have H : ((slices_Index_string_string.f k l0 a1).bind fun t247 => (some (decide (t247 ≥ 0)))) = some r := h
 clear h
 replace H := Option.bind_eq_some_iff.mp H
 obtain ⟨t247, A30, H⟩ := H
 try dsimp only at H
 have A3 := Aside0.mk A30
 clear A30
 obtain rfl := Option.some.inj H
 go_enter Tryd.func160, Tryd.ntmps160
 go_wp2_with (first | ((with_reducible refine zo (f := 186) rfl ?_); refine zy (some 7) rfl rfl Tryd.func186 (by kernel_rfl) rfl #[.slice A0 l0.length c0, .string a1] rfl (by (try simp only [List.map_toArray, List.map_cons, List.map_nil]); first | done | rfl) ?_; (with_reducible refine (slices_Index_string_string.calls k _ _ l0 a1 t247 _ ?side1 ?side2 A3.out).mono ?_); (case side1 => repeat (first | exact HR0.out | (with_reducible refine Kd.C_alloc ?_ _) | (with_reducible refine Kd.C_drewN ?_ _) | (with_reducible refine Kd.C_drew ?_))); (case side2 => exact HC0.out); rintro e w' ⟨rfl, ⟨nd, rfl⟩⟩; refine ⟨_, rfl, ?_⟩))
 go_ret
 exact ⟨by first | rfl | (simp; done) | (simp [*]; done), by repeat (first | exact Drawn0.refl _ | apply Drawn0.step)⟩

def impl_data.f (a0 : ByteArray) : Option (ByteArray) := if a0.toList = ([45] : List UInt8) then (some (⟨#[]⟩ : ByteArray)) else (some a0)
set_option maxHeartbeats 8000000 in
set_option maxRecDepth 100000 in
theorem impl_data.calls (a0 : ByteArray) (r : ByteArray) (w : World) (h : impl_data.f a0 = some r) :
  Calls Tryd.prog 161 #[.string a0] w fun e w' => e = .returned (.string r) ∧ Drawn0 w w' := by
 have H : (if a0.toList = ([45] : List UInt8) then (some (⟨#[]⟩ : ByteArray)) else (some a0)) = some r := h
 clear h
 by_cases c2 : a0.toList = ([45] : List UInt8)
 ·rw [if_pos c2] at H
  have c2b0 : (a0.toList == ([45] : List UInt8)) = true := beq_iff_eq.mpr c2
  have c2b1 : (a0.toList != ([45] : List UInt8)) = false := bne_eq_false_iff_eq.mpr c2
  clear c2
  obtain rfl := Option.some.inj H
  go_enter Tryd.func161, Tryd.ntmps161
  go_wp2
  go_ret
  exact ⟨by first | rfl | (simp; done) | (simp [*]; done), by repeat (first | exact Drawn0.refl _ | apply Drawn0.step)⟩
 ·rw [if_neg c2] at H
  have c2b0 : (a0.toList == ([45] : List UInt8)) = false := beq_eq_false_iff_ne.mpr c2
  have c2b1 : (a0.toList != ([45] : List UInt8)) = true := bne_iff_ne.mpr c2
  obtain rfl := Option.some.inj H
  go_enter Tryd.func161, Tryd.ntmps161
  go_wp2
  go_ret
  exact ⟨by first | rfl | (simp; done) | (simp [*]; done), by repeat (first | exact Drawn0.refl _ | apply Drawn0.step)⟩

def stringslite_HasPrefix.f (a0 : ByteArray) (a1 : ByteArray) : Option (Bool) := if (a0.size : Int) ≥ (a1.size : Int) then (if 0 ≤ (a1.size : Int) then (if (a1.size : Int) ≤ (a0.size : Int) then (some ((a0.extract 0 ((a1.size : Int) : Int).toNat).toList == a1.toList)) else (none)) else (none)) else (some false)
set_option maxHeartbeats 8000000 in
set_option maxRecDepth 100000 in
theorem stringslite_HasPrefix.calls (a0 : ByteArray) (a1 : ByteArray) (r : Bool) (w : World) (h : stringslite_HasPrefix.f a0 a1 = some r) :
  Calls Tryd.prog 189 #[.string a0, .string a1] w fun e w' => e = .returned (.bool r) ∧ Drawn0 w w' := by
 have H : (if (a0.size : Int) ≥ (a1.size : Int) then (if 0 ≤ (a1.size : Int) then (if (a1.size : Int) ≤ (a0.size : Int) then (some ((a0.extract 0 ((a1.size : Int) : Int).toNat).toList == a1.toList)) else (none)) else (none)) else (some false)) = some r := h
 clear h
 by_cases c3 : (a0.size : Int) ≥ (a1.size : Int)
 ·rw [if_pos c3] at H
  have c3b0 : decide ((a1.size : Int) ≤ (a0.size : Int)) = true := decide_eq_true c3
  have c3b1 : decide (a1.size ≤ a0.size) = true := decide_eq_true (Int.ofNat_le.mp c3)
  clear c3
  by_cases c4 : 0 ≤ (a1.size : Int)
  ·rw [if_pos c4] at H
   have c4b0 := eq_true c4
   have c4b1 : decide (0 ≤ (a1.size : Int)) = true := decide_eq_true c4
   clear c4
   by_cases c5 : (a1.size : Int) ≤ (a0.size : Int)
   ·rw [if_pos c5] at H
    have c5b0 := eq_true c5
    have c5b1 : decide ((a1.size : Int) ≤ (a0.size : Int)) = true := decide_eq_true c5
    clear c5
    obtain rfl := Option.some.inj H
    go_enter Tryd.func189, Tryd.ntmps189
    go_wp2
    go_ret
    exact ⟨by first | rfl | (simp; done) | (simp [*]; done), by repeat (first | exact Drawn0.refl _ | apply Drawn0.step)⟩
   ·rw [if_neg c5] at H
    exact absurd H (by simp)
  ·rw [if_neg c4] at H
   exact absurd H (by simp)
 ·rw [if_neg c3] at H
  have c3b0 : decide ((a1.size : Int) ≤ (a0.size : Int)) = false := decide_eq_false c3
  have c3b1 : decide (a1.size ≤ a0.size) = false := decide_eq_false (fun h => c3 (Int.ofNat_le.mpr h))
  clear c3
  obtain rfl := Option.some.inj H
  go_enter Tryd.func189, Tryd.ntmps189
  go_wp2
  go_ret
  exact ⟨by first | rfl | (simp; done) | (simp [*]; done), by repeat (first | exact Drawn0.refl _ | apply Drawn0.step)⟩

def stringslite_TrimPrefix.f (a0 : ByteArray) (a1 : ByteArray) : Option (ByteArray) := (stringslite_HasPrefix.f a0 a1).bind fun t248 => (if t248 = true then (if 0 ≤ (a1.size : Int) then (if (a1.size : Int) ≤ (a0.size : Int) then (some (a0.extract ((a1.size : Int) : Int).toNat a0.size)) else (none)) else (none)) else (some a0))
set_option maxHeartbeats 8000000 in
set_option maxRecDepth 100000 in
theorem stringslite_TrimPrefix.calls (a0 : ByteArray) (a1 : ByteArray) (r : ByteArray) (w : World) (h : stringslite_TrimPrefix.f a0 a1 = some r) :
  Calls Tryd.prog 198 #[.string a0, .string a1] w fun e w' => e = .returned (.string r) ∧ Drawn0 w w' := by
 have H : ((stringslite_HasPrefix.f a0 a1).bind fun t248 => (if t248 = true then (if 0 ≤ (a1.size : Int) then (if (a1.size : Int) ≤ (a0.size : Int) then (some (a0.extract ((a1.size : Int) : Int).toNat a0.size)) else (none)) else (none)) else (some a0))) = some r := h
 clear h
 replace H := Option.bind_eq_some_iff.mp H
 obtain ⟨t248, A30, H⟩ := H
 try dsimp only at H
 have A3 := Aside0.mk A30
 clear A30
 by_cases c4 : t248 = true
 ·subst c4
  rw [if_pos rfl] at H
  by_cases c5 : 0 ≤ (a1.size : Int)
  ·rw [if_pos c5] at H
   have c5b0 := eq_true c5
   have c5b1 : decide (0 ≤ (a1.size : Int)) = true := decide_eq_true c5
   clear c5
   by_cases c6 : (a1.size : Int) ≤ (a0.size : Int)
   ·rw [if_pos c6] at H
    have c6b0 := eq_true c6
    have c6b1 : decide ((a1.size : Int) ≤ (a0.size : Int)) = true := decide_eq_true c6
    clear c6
    obtain rfl := Option.some.inj H
    go_enter Tryd.func198, Tryd.ntmps198
    go_wp2_with (first | ((with_reducible refine zo (f := 189) rfl ?_); refine zy (some 7) rfl rfl Tryd.func189 (by kernel_rfl) rfl #[.string a0, .string a1] rfl (by (try simp only [List.map_toArray, List.map_cons, List.map_nil]); first | done | rfl) ?_; (with_reducible refine (stringslite_HasPrefix.calls a0 a1 true _ A3.out).mono ?_); rintro e w' ⟨rfl, ⟨nd, rfl⟩⟩; refine ⟨_, rfl, ?_⟩))
    go_ret
    exact ⟨by first | rfl | (simp; done) | (simp [*]; done), by repeat (first | exact Drawn0.refl _ | apply Drawn0.step)⟩
   ·rw [if_neg c6] at H
    exact absurd H (by simp)
  ·rw [if_neg c5] at H
   exact absurd H (by simp)
 ·replace c4 := Bool.eq_false_iff.mpr c4
  subst c4
  rw [if_neg (show ¬ (false = true) by decide)] at H
  obtain rfl := Option.some.inj H
  go_enter Tryd.func198, Tryd.ntmps198
  go_wp2_with (first | ((with_reducible refine zo (f := 189) rfl ?_); refine zy (some 7) rfl rfl Tryd.func189 (by kernel_rfl) rfl #[.string a0, .string a1] rfl (by (try simp only [List.map_toArray, List.map_cons, List.map_nil]); first | done | rfl) ?_; (with_reducible refine (stringslite_HasPrefix.calls a0 a1 false _ A3.out).mono ?_); rintro e w' ⟨rfl, ⟨nd, rfl⟩⟩; refine ⟨_, rfl, ?_⟩))
  go_ret
  exact ⟨by first | rfl | (simp; done) | (simp [*]; done), by repeat (first | exact Drawn0.refl _ | apply Drawn0.step)⟩

def strings_TrimPrefix.f (a0 : ByteArray) (a1 : ByteArray) : Option (ByteArray) := (stringslite_TrimPrefix.f a0 a1).bind fun t249 => (some t249)
set_option maxHeartbeats 8000000 in
set_option maxRecDepth 100000 in
theorem strings_TrimPrefix.calls (a0 : ByteArray) (a1 : ByteArray) (r : ByteArray) (w : World) (h : strings_TrimPrefix.f a0 a1 = some r) :
  Calls Tryd.prog 187 #[.string a0, .string a1] w fun e w' => e = .returned (.string r) ∧ Drawn0 w w' := by
 have H : ((stringslite_TrimPrefix.f a0 a1).bind fun t249 => (some t249)) = some r := h
 clear h
 replace H := Option.bind_eq_some_iff.mp H
 obtain ⟨t249, A30, H⟩ := H
 try dsimp only at H
 have A3 := Aside0.mk A30
 clear A30
 obtain rfl := Option.some.inj H
 go_enter Tryd.func187, Tryd.ntmps187
 go_wp2_with (first | ((with_reducible refine zo (f := 198) rfl ?_); refine zy (some 7) rfl rfl Tryd.func198 (by kernel_rfl) rfl #[.string a0, .string a1] rfl (by (try simp only [List.map_toArray, List.map_cons, List.map_nil]); first | done | rfl) ?_; (with_reducible refine (stringslite_TrimPrefix.calls a0 a1 t249 _ A3.out).mono ?_); rintro e w' ⟨rfl, ⟨nd, rfl⟩⟩; refine ⟨_, rfl, ?_⟩))
 go_ret
 exact ⟨by first | rfl | (simp; done) | (simp [*]; done), by repeat (first | exact Drawn0.refl _ | apply Drawn0.step)⟩

def parsedInt (a0 : ByteArray) : Option Int := match Go.Lib.parseIntB 64 a0.data.toList with
 | .ok v => some v
 | _ => none
def strconv_ParseInt.f (a0 : ByteArray) (a1 : Int) (a2 : Int) : Option (Int) := if a1 = 10 ∧ a2 = 64 ∧ a0.size ≤ 281474976710656 then parsedInt a0 else none
theorem strconv_ParseInt.calls (a0 : ByteArray) (a1 : Int) (a2 : Int) (r : Int) (w : World) (h : strconv_ParseInt.f a0 a1 a2 = some r) :
  Calls Tryd.prog 188 #[.string a0, .int .i64 a1, .int .i64 a2] w fun e w' => e = .returned (.tuple #[.int .i64 r, .nilIface]) ∧ Below w.heap.size w w' := by
 unfold strconv_ParseInt.f at h
 split at h
 ·rename_i hg
  obtain ⟨rfl, rfl, hs⟩ := hg
  unfold parsedInt at h
  split at h
  ·rename_i v hv
   obtain rfl := Option.some.inj h
   refine (Go.Proofs.Tryd.strconv_ParseInt_10_at64_ok a0 (by omega) v hv w).mono ?_
   rintro e w' ⟨rfl, rfl | ⟨t, rfl⟩⟩
   ·exact ⟨rfl, Below.refl _ _⟩
   ·exact ⟨rfl, bytes_below (Below.refl _ _) (Nat.le_refl _) _ _⟩
  ·cases h
 ·cases h

mutual
def impl_number.j0 : Nat → ByteArray → ByteArray → Bool → Option (Int × Bool)
 | 0, _, _, _ => none
 | k + 1, x0, x4, x26 => if x26 = true then (some (0, false)) else (impl_number.l0 k x0 x4 (x4.size : Int) 0)
def impl_number.l0 : Nat → ByteArray → ByteArray → Int → Int → Option (Int × Bool)
 | 0, _, _, _, _ => none
 | k + 1, x0, x4, x28, x29 => if x29 < x28 then (if 0 ≤ x29 then (if x29 < (x4.size : Int) then (if (bt x4 x29) < 48 then (some (0, false)) else (if (bt x4 x29) > 57 then (some (0, false)) else (impl_number.l0 k x0 x4 x28 (wrap64 (x29 + 1))))) else (none)) else (none)) else ((strconv_ParseInt.f x0 10 64).bind fun t251 => (some (t251, true)))
end
def impl_number.f (k : Nat) (a0 : ByteArray) : Option (Int × Bool) := (strings_TrimPrefix.f a0 (⟨#[45]⟩ : ByteArray)).bind fun t250 => (if (t250.size : Int) = 0 then (impl_number.j0 k a0 t250 true) else (if (t250.size : Int) > 9 then (impl_number.j0 k a0 t250 true) else (if 0 < (t250.size : Int) then (if (bt t250 0) = 48 then (impl_number.j0 k a0 t250 (a0.toList != ([48] : List UInt8))) else (impl_number.j0 k a0 t250 false)) else (none))))
theorem impl_number.mono_l : ∀ k, (∀ y0 y1 y2, LeO (impl_number.j0 k y0 y1 y2) (impl_number.j0 (k + 1) y0 y1 y2)) ∧ (∀ y0 y1 y2 y3, LeO (impl_number.l0 k y0 y1 y2 y3) (impl_number.l0 (k + 1) y0 y1 y2 y3))
 | 0 => ⟨fun _ _ _ r h => by simp [impl_number.j0] at h, fun _ _ _ _ r h => by simp [impl_number.l0] at h⟩
 | k + 1 => by
  obtain ⟨ih0, ih1⟩ := impl_number.mono_l k
  refine ⟨?_, ?_⟩
  ·intro y0 y1 y2
   unfold impl_number.j0
   repeat' first
   | (with_reducible exact ih0 _ _ _)
   | (with_reducible exact ih1 _ _ _ _)
   | (with_reducible exact LeO.refl _)
   | (with_reducible exact LeO.none _)
   | (with_reducible refine LeO.ite ?_ ?_)
   | (with_reducible refine LeO.bind ?_ (fun _ => ?_))
   | exact ih0 _ _ _
   | exact ih1 _ _ _ _
   | exact LeO.none _
   | refine LeO.ite ?_ ?_
   | refine LeO.bind ?_ (fun _ => ?_)
  ·intro y0 y1 y2 y3
   unfold impl_number.l0
   repeat' first
   | (with_reducible exact ih0 _ _ _)
   | (with_reducible exact ih1 _ _ _ _)
   | (with_reducible exact LeO.refl _)
   | (with_reducible exact LeO.none _)
   | (with_reducible refine LeO.ite ?_ ?_)
   | (with_reducible refine LeO.bind ?_ (fun _ => ?_))
   | exact ih0 _ _ _
   | exact ih1 _ _ _ _
   | exact LeO.none _
   | refine LeO.ite ?_ ?_
   | refine LeO.bind ?_ (fun _ => ?_)
theorem impl_number.mono : ∀ a0 k, LeO (impl_number.f k a0) (impl_number.f (k + 1) a0) := by
 intro a0 k
 obtain ⟨ih0, ih1⟩ := impl_number.mono_l k
 unfold impl_number.f
 repeat' first
   | (with_reducible exact ih0 _ _ _)
   | (with_reducible exact ih1 _ _ _ _)
   | (with_reducible exact LeO.refl _)
   | (with_reducible exact LeO.none _)
   | (with_reducible refine LeO.ite ?_ ?_)
   | (with_reducible refine LeO.bind ?_ (fun _ => ?_))
   | exact ih0 _ _ _
   | exact ih1 _ _ _ _
   | exact LeO.none _
   | refine LeO.ite ?_ ?_
   | refine LeO.bind ?_ (fun _ => ?_)
set_option maxHeartbeats 8000000 in
set_option maxRecDepth 100000 in
theorem impl_number.calls (k : Nat) (a0 : ByteArray) (r1 : Int) (r2 : Bool) (w : World) (h : impl_number.f k a0 = some (r1, r2)) :
  Calls Tryd.prog 162 #[.string a0] w fun e w' => e = .returned (.tuple #[.int .i64 r1, .bool r2]) ∧ Below w.heap.size w w' := by
 have HB := Aside0.mk (Below.refl w.heap.size w)
 have H : ((strings_TrimPrefix.f a0 (⟨#[45]⟩ : ByteArray)).bind fun t250 => (if (t250.size : Int) = 0 then (impl_number.j0 k a0 t250 true) else (if (t250.size : Int) > 9 then (impl_number.j0 k a0 t250 true) else (if 0 < (t250.size : Int) then (if (bt t250 0) = 48 then (impl_number.j0 k a0 t250 (a0.toList != ([48] : List UInt8))) else (impl_number.j0 k a0 t250 false)) else (none))))) = some (r1, r2) := h
 clear h
 replace H := Option.bind_eq_some_iff.mp H
 obtain ⟨t250, A20, H⟩ := H
 try dsimp only at H
 have A2 := Aside0.mk A20
 clear A20
 have HC3 := Aside0.mk H
 clear H
 go_enter Tryd.func162, Tryd.ntmps162
 go_upto_region 2 with (first | (go_at_call 187; (with_reducible refine (strings_TrimPrefix.calls a0 (⟨#[45]⟩ : ByteArray) t250 _ A2.out).mono ?_); rintro e w' ⟨rfl, ⟨nd, rfl⟩⟩; (try first | exact ⟨rfl, _, World.drewN_drewN _ _ _⟩ | exact ⟨rfl, _, Eq.trans (World.drewN_drewN _ _ _) (congrArg (World.drewN _) (Nat.add_assoc _ _ _))⟩)))
 repeat (go_quiet (first | (go_at_call 187; (with_reducible refine (strings_TrimPrefix.calls a0 (⟨#[45]⟩ : ByteArray) t250 _ A2.out).mono ?_); rintro e w' ⟨rfl, ⟨nd, rfl⟩⟩; (try first | exact ⟨rfl, _, World.drewN_drewN _ _ _⟩ | exact ⟨rfl, _, Eq.trans (World.drewN_drewN _ _ _) (congrArg (World.drewN _) (Nat.add_assoc _ _ _))⟩))); go_upto_region 2 with (first | (go_at_call 187; (with_reducible refine (strings_TrimPrefix.calls a0 (⟨#[45]⟩ : ByteArray) t250 _ A2.out).mono ?_); rintro e w' ⟨rfl, ⟨nd, rfl⟩⟩; (try first | exact ⟨rfl, _, World.drewN_drewN _ _ _⟩ | exact ⟨rfl, _, Eq.trans (World.drewN_drewN _ _ _) (congrArg (World.drewN _) (Nat.add_assoc _ _ _))⟩))))
 (try simp only [Act.put, List.setIfInBounds_toArray, List.set_cons_zero, List.set_cons_succ])
 go_cut [26] (fun v26 wc => ∃ (kq : Nat) (x26_2 : Bool), v26 = .bool x26_2 ∧ Aside0 (impl_number.j0 kq a0 t250 x26_2 = some (r1, r2)) ∧ Aside0 (kq ≤ k) ∧ Aside0 (Below w.heap.size w wc))
 case first =>
  have H := HC3.out
  clear HC3
  by_cases c4 : (t250.size : Int) = 0
  ·rw [if_pos c4] at H
   have c4b0 : ((t250.size : Int) == 0) = true := beq_iff_eq.mpr c4
   have c4b1 : ((t250.size : Int) != 0) = false := bne_eq_false_iff_eq.mpr c4
   clear c4
   (first | rw [c4b0] | (simp only [zr, zt]; rw [c4b0]) | skip)
   have H' := Aside0.mk H
   clear H
   go_wp2
   repeat (go_quiet (fail); try go_wp2)
   go_meet
   case rel => exact ⟨_, (true), (by first | rfl | (simp [*]; done)), H', ⟨by first | omega | exact Nat.le_refl _⟩, ⟨by repeat (first | (with_reducible first | exact HB.out | apply zh | apply zd | apply zi) | exact HB.out)⟩⟩
  ·rw [if_neg c4] at H
   have c4b0 : ((t250.size : Int) == 0) = false := beq_eq_false_iff_ne.mpr c4
   have c4b1 : ((t250.size : Int) != 0) = true := bne_iff_ne.mpr c4
   (first | rw [c4b0] | (simp only [zr, zt]; rw [c4b0]) | skip)
   by_cases c5 : (t250.size : Int) > 9
   ·rw [if_pos c5] at H
    have c5b0 : decide (9 < (t250.size : Int)) = true := decide_eq_true c5
    have c5b1 : decide (9 < t250.size) = true := decide_eq_true (by omega)
    clear c5
    have H' := Aside0.mk H
    clear H
    go_wp2
    repeat (go_quiet (fail); try go_wp2)
    go_meet
    case rel => exact ⟨_, (true), (by first | rfl | (simp [*]; done)), H', ⟨by first | omega | exact Nat.le_refl _⟩, ⟨by repeat (first | (with_reducible first | exact HB.out | apply zh | apply zd | apply zi) | exact HB.out)⟩⟩
   ·rw [if_neg c5] at H
    have c5b0 : decide (9 < (t250.size : Int)) = false := decide_eq_false c5
    have c5b1 : decide (9 < t250.size) = false := decide_eq_false (by omega)
    clear c5
    by_cases c6 : 0 < (t250.size : Int)
    ·rw [if_pos c6] at H
     have c6b0 : decide (0 < (t250.size : Int)) = true := decide_eq_true c6
     have c6b1 : decide (0 < t250.size) = true := decide_eq_true (by omega)
     clear c6
     by_cases c8 : (bt t250 0) = 48
     ·rw [if_pos c8] at H
      have c8b0 : ((bt t250 0) == 48) = true := beq_iff_eq.mpr c8
      have c8b1 : ((bt t250 0) != 48) = false := bne_eq_false_iff_eq.mpr c8
      clear c8
      have H' := Aside0.mk H
      clear H
      have p7 : 0 ≤ (0 : Int) := (by omega)
      have q7 : 0 < t250.size := (by have : (0 : Int) < (t250.size : Int) := of_decide_eq_true (by with_reducible assumption); omega)
      have hx7 : ∀ h : 0 < t250.size, ((t250[0]'h).toNat : Int) = bt t250 0 := bt_at t250 0
      clear p7
      have qi7 : (0 < (t250.size : Int)) = True := eq_true (of_decide_eq_true (by with_reducible assumption))
      replace q7 := eq_true q7
      go_wp2
      repeat (go_quiet (fail); try go_wp2)
      go_meet
      case rel => exact ⟨_, ((a0.toList != ([48] : List UInt8))), (by first | rfl | (simp [*]; done)), H', ⟨by first | omega | exact Nat.le_refl _⟩, ⟨by repeat (first | (with_reducible first | exact HB.out | apply zh | apply zd | apply zi) | exact HB.out)⟩⟩
     ·rw [if_neg c8] at H
      have c8b0 : ((bt t250 0) == 48) = false := beq_eq_false_iff_ne.mpr c8
      have c8b1 : ((bt t250 0) != 48) = true := bne_iff_ne.mpr c8
      have H' := Aside0.mk H
      clear H
      have p7 : 0 ≤ (0 : Int) := (by omega)
      have q7 : 0 < t250.size := (by have : (0 : Int) < (t250.size : Int) := of_decide_eq_true (by with_reducible assumption); omega)
      have hx7 : ∀ h : 0 < t250.size, ((t250[0]'h).toNat : Int) = bt t250 0 := bt_at t250 0
      clear p7
      have qi7 : (0 < (t250.size : Int)) = True := eq_true (of_decide_eq_true (by with_reducible assumption))
      replace q7 := eq_true q7
      go_wp2
      repeat (go_quiet (fail); try go_wp2)
      go_meet
      case rel => exact ⟨_, (false), (by first | rfl | (simp [*]; done)), H', ⟨by first | omega | exact Nat.le_refl _⟩, ⟨by repeat (first | (with_reducible first | exact HB.out | apply zh | apply zd | apply zi) | exact HB.out)⟩⟩
    ·rw [if_neg c6] at H
     exact absurd H (by simp)
 case rest =>
  clear HC3
  try clear c1
  try clear p2
  try clear c4
  try clear c4b0
  try clear c4b1
  try clear c5
  try clear c5b0
  try clear c5b1
  try clear c6
  try clear c6b0
  try clear c6b1
  try clear p7
  try clear q7
  try clear hx7
  try clear qi7
  try clear c8
  try clear c8b0
  try clear c8b1
  try clear p7
  try clear q7
  obtain ⟨kq, x26_2, rfl, HA, HJ2, HB⟩ := hcut
  cases kq with
  | zero => exact absurd HA.out (by simp [impl_number.j0])
  | succ kj2 =>
   have H := HA.out
   clear HA
   simp only [impl_number.j0] at H
   by_cases c9 : x26_2 = true
   ·subst c9
    rw [if_pos rfl] at H
    simp only [Option.some.injEq, Prod.mk.injEq] at H
    obtain ⟨rfl, rfl⟩ := H
    go_wp2
    repeat (go_quiet (fail); try go_wp2)
    go_ret2
    exact ⟨by first | rfl | (simp [*] <;> rfl), by repeat (first | (with_reducible first | exact HB.out | apply zh | apply zd | apply zi) | exact HB.out)⟩
   ·replace c9 := Bool.eq_false_iff.mpr c9
    subst c9
    rw [if_neg (show ¬ (false = true) by decide)] at H
    have H' := Aside0.mk H
    clear H
    go_wp2
    repeat (go_quiet (fail); try go_wp2)
    go_loopg [29] kj2 (fun kq v29 w' => ∃ (x29_2 : Int), v29 = .int .i64 x29_2 ∧ Aside0 (impl_number.l0 kq a0 t250 (t250.size : Int) x29_2 = some (r1, r2)) ∧ Aside0 (kq ≤ kj2) ∧ Aside0 (Below w.heap.size w w'))
    case atStart => exact ⟨(0), (by first | rfl | (simp [*]; done)), H', ⟨Nat.le_refl _⟩, ⟨by repeat (first | (with_reducible first | exact HB.out | apply zh | apply zd | apply zi) | exact HB.out)⟩⟩
    case round =>
     clear H'
     try clear c1
     try clear p2
     try clear c4
     try clear c4b0
     try clear c4b1
     try clear c5
     try clear c5b0
     try clear c5b1
     try clear c6
     try clear c6b0
     try clear c6b1
     try clear p7
     try clear q7
     try clear hx7
     try clear qi7
     try clear c8
     try clear c8b0
     try clear c8b1
     try clear c9
     try clear p2
     try clear p7
     try clear q7
     obtain ⟨x29_2, rfl, HA, HK2, HB⟩ := hrel
     cases gk with
     | zero => exact absurd HA.out (by simp [impl_number.l0])
     | succ k2 =>
      have H := HA.out
      clear HA
      simp only [impl_number.l0] at H
      by_cases c10 : x29_2 < (t250.size : Int)
      ·rw [if_pos c10] at H
       have c10b0 : decide (x29_2 < (t250.size : Int)) = true := decide_eq_true c10
       clear c10
       by_cases c11 : 0 ≤ x29_2
       ·rw [if_pos c11] at H
        have c11b0 : decide (0 ≤ x29_2) = true := decide_eq_true c11
        clear c11
        by_cases c12 : x29_2 < (t250.size : Int)
        ·rw [if_pos c12] at H
         have c12b0 : decide (x29_2 < (t250.size : Int)) = true := decide_eq_true c12
         clear c12
         by_cases c14 : (bt t250 x29_2) < 48
         ·rw [if_pos c14] at H
          have c14b0 : decide ((bt t250 x29_2) < 48) = true := decide_eq_true c14
          clear c14
          simp only [Option.some.injEq, Prod.mk.injEq] at H
          obtain ⟨rfl, rfl⟩ := H
          have p13 : 0 ≤ (x29_2 : Int) := of_decide_eq_true (by with_reducible assumption)
          have q13 : x29_2 < (t250.size : Int) := of_decide_eq_true (by with_reducible assumption)
          have hx13 := bt_at t250 x29_2
          replace p13 := eq_true p13
          replace q13 := eq_true q13
          go_wp2
          repeat (go_quiet (fail); try go_wp2)
          go_ret2
          exact ⟨by first | rfl | (simp [*] <;> rfl), by repeat (first | (with_reducible first | exact HB.out | apply zh | apply zd | apply zi) | exact HB.out)⟩
         ·rw [if_neg c14] at H
          have c14b0 : decide ((bt t250 x29_2) < 48) = false := decide_eq_false c14
          clear c14
          by_cases c16 : (bt t250 x29_2) > 57
          ·rw [if_pos c16] at H
           have c16b0 : decide (57 < (bt t250 x29_2)) = true := decide_eq_true c16
           clear c16
           simp only [Option.some.injEq, Prod.mk.injEq] at H
           obtain ⟨rfl, rfl⟩ := H
           have p13 : 0 ≤ (x29_2 : Int) := of_decide_eq_true (by with_reducible assumption)
           have q13 : x29_2 < (t250.size : Int) := of_decide_eq_true (by with_reducible assumption)
           have hx13 := bt_at t250 x29_2
           replace p13 := eq_true p13
           replace q13 := eq_true q13
           have p15 : 0 ≤ (x29_2 : Int) := of_decide_eq_true (by with_reducible assumption)
           have q15 : x29_2 < (t250.size : Int) := of_decide_eq_true (by with_reducible assumption)
           have hx15 := bt_at t250 x29_2
           replace p15 := eq_true p15
           replace q15 := eq_true q15
           go_wp2
           repeat (go_quiet (fail); try go_wp2)
           go_ret2
           exact ⟨by first | rfl | (simp [*] <;> rfl), by repeat (first | (with_reducible first | exact HB.out | apply zh | apply zd | apply zi) | exact HB.out)⟩
          ·rw [if_neg c16] at H
           have c16b0 : decide (57 < (bt t250 x29_2)) = false := decide_eq_false c16
           clear c16
           have H' := Aside0.mk H
           clear H
           have p13 : 0 ≤ (x29_2 : Int) := of_decide_eq_true (by with_reducible assumption)
           have q13 : x29_2 < (t250.size : Int) := of_decide_eq_true (by with_reducible assumption)
           have hx13 := bt_at t250 x29_2
           replace p13 := eq_true p13
           replace q13 := eq_true q13
           have p15 : 0 ≤ (x29_2 : Int) := of_decide_eq_true (by with_reducible assumption)
           have q15 : x29_2 < (t250.size : Int) := of_decide_eq_true (by with_reducible assumption)
           have hx15 := bt_at t250 x29_2
           replace p15 := eq_true p15
           replace q15 := eq_true q15
           go_wp2
           repeat (go_quiet (fail); try go_wp2)
           go_roundg k2
           case measure => have := HJ2.out; have := HK2.out; omega
           case rel => exact ⟨(wrap64 (x29_2 + 1)), (by first | rfl | (simp [*]; done)), H', ⟨by have := HJ2.out; have := HK2.out; omega⟩, ⟨by repeat (first | (with_reducible first | exact HB.out | apply zh | apply zd | apply zi) | exact HB.out)⟩⟩
        ·rw [if_neg c12] at H
         exact absurd H (by simp)
       ·rw [if_neg c11] at H
        exact absurd H (by simp)
      ·rw [if_neg c10] at H
       have c10b0 : decide (x29_2 < (t250.size : Int)) = false := decide_eq_false c10
       clear c10
       replace H := Option.bind_eq_some_iff.mp H
       obtain ⟨t251, A170, H⟩ := H
       try dsimp only at H
       have A17 := Aside0.mk A170
       clear A170
       simp only [Option.some.injEq, Prod.mk.injEq] at H
       obtain ⟨rfl, rfl⟩ := H
       go_wp2_with (first | (go_at_call 188; (with_reducible refine (strconv_ParseInt.calls a0 10 64 t251 _ A17.out).mono ?_); rintro e w18 ⟨rfl, hb⟩; have n0_ := Aside0.mk (zm (by exact bl HB.out) hb); clear HB; have HB := n0_; clear n0_; (try clear hb); (try clear hb2); (try clear hk); (try clear hi)))
       repeat (go_quiet (first | (go_at_call 188; (with_reducible refine (strconv_ParseInt.calls a0 10 64 t251 _ A17.out).mono ?_); rintro e w18 ⟨rfl, hb⟩; have n0_ := Aside0.mk (zm (by repeat (first | (with_reducible first | exact HB.out | apply zh | apply zd | apply zi) | exact HB.out)) hb); clear HB; have HB := n0_; clear n0_; (try clear hb); (try clear hb2); (try clear hk); (try clear hi))); try go_wp2_with (first | (go_at_call 188; (with_reducible refine (strconv_ParseInt.calls a0 10 64 t251 _ A17.out).mono ?_); rintro e w18 ⟨rfl, hb⟩; have n0_ := Aside0.mk (zm (by exact bl HB.out) hb); clear HB; have HB := n0_; clear n0_; (try clear hb); (try clear hb2); (try clear hk); (try clear hi))))
       go_ret2
       exact ⟨by first | rfl | (simp [*] <;> rfl), by repeat (first | (with_reducible first | exact HB.out | apply zh | apply zd | apply zi) | exact HB.out)⟩

def wantL : List (ByteArray × Int) := YtfiojiokmkiflaaDoorH.aset (YtfiojiokmkiflaaDoorH.aset (YtfiojiokmkiflaaDoorH.aset (YtfiojiokmkiflaaDoorH.aset (YtfiojiokmkiflaaDoorH.aset [] (⟨#[99, 114, 101, 97, 116, 101]⟩ : ByteArray) 3) (⟨#[115, 101, 113]⟩ : ByteArray) 3) (⟨#[100, 101, 108, 101, 116, 101]⟩ : ByteArray) 3) (⟨#[115, 101, 116]⟩ : ByteArray) 4) (⟨#[99, 104, 101, 99, 107]⟩ : ByteArray) 3
def strconv_Itoa.f (a0 : ByteArray) : Option (Int) := some ((YtfiojiokmkiflaaDoorH.aget wantL a0).getD 0)
theorem want_look {w : World} {gm : Nat} {k : ByteArray} {r : Int} (hm : YtfiojiokmkiflaaDoorH.MapS (fun v : Int => Value.int .i64 v) w gm wantL) (hn : strconv_Itoa.f k = some r) :
  (Instr.lookup 232 (.map (some gm)) (.string k) false).run Tryd.prog w = .ok (.int .i64 r) w := by
 have hh := YtfiojiokmkiflaaDoorH.run_lookup1 (E := 3) (YtfiojiokmkiflaaDoorH.str_key Tryd.underlying9) Tryd.underlying232 k (.int .i64 0) (fun w => (zero_of_info (P := Tryd.prog) (t := 3) (v := .int .i64 0) (n := 1) (by kernel_rfl)).1 w) hm.is
 have hr : r = (YtfiojiokmkiflaaDoorH.aget wantL k).getD 0 := (Option.some.inj hn).symm
 rw [hh, hr]
 cases YtfiojiokmkiflaaDoorH.aget wantL k <;> rfl

mutual
def impl_operation.j0 : Nat → List ByteArray → Bool → Option (Int × ByteArray × ByteArray × Int × Bool × Bool)
 | 0, _, _ => none
 | k + 1, x0, x20 => if x20 = true then (some (0, (⟨#[]⟩ : ByteArray), (⟨#[]⟩ : ByteArray), 0, false, false)) else (if 1 < (x0.length : Int) then (if 0 < (x0.length : Int) then (if (rdOf ByteArray.empty x0 0).toList = ([99, 114, 101, 97, 116, 101] : List UInt8) then (impl_operation.j1 k x0 true (rdOf ByteArray.empty x0 0) ((rdOf ByteArray.empty x0 0).toList == ([99, 114, 101, 97, 116, 101] : List UInt8)) 0 (rdOf ByteArray.empty x0 1) (⟨#[]⟩ : ByteArray) 0 false) else (impl_operation.j1 k x0 true (rdOf ByteArray.empty x0 0) ((rdOf ByteArray.empty x0 0).toList == ([115, 101, 113] : List UInt8)) 0 (rdOf ByteArray.empty x0 1) (⟨#[]⟩ : ByteArray) 0 false)) else (none)) else (none))
def impl_operation.j1 : Nat → List ByteArray → Bool → ByteArray → Bool → Int → ByteArray → ByteArray → Int → Bool → Option (Int × ByteArray × ByteArray × Int × Bool × Bool)
 | 0, _, _, _, _, _, _, _, _, _ => none
 | k + 1, x0, x5, x28, x29, x258000, x258001, x258002, x258003, x258004 => if x29 = true then (if 2 < (x0.length : Int) then ((impl_data.f (rdOf ByteArray.empty x0 2)).bind fun t260 => (if 0 < (x0.length : Int) then (some (1, x258001, t260, x258003, ((rdOf ByteArray.empty x0 0).toList == ([115, 101, 113] : List UInt8)), x5)) else (none))) else (none)) else (if x28.toList = ([115, 101, 116] : List UInt8) then (if 2 < (x0.length : Int) then ((impl_data.f (rdOf ByteArray.empty x0 2)).bind fun t263 => (if 3 < (x0.length : Int) then ((impl_number.f k (rdOf ByteArray.empty x0 3)).bind fun bt265 => (some (3, x258001, t263, bt265.1, x258004, bt265.2))) else (none))) else (none)) else (if x28.toList = ([100, 101, 108, 101, 116, 101] : List UInt8) then (if 2 < (x0.length : Int) then ((impl_number.f k (rdOf ByteArray.empty x0 2)).bind fun bt268 => (some (2, x258001, x258002, bt268.1, x258004, bt268.2))) else (none)) else (if x28.toList = ([99, 104, 101, 99, 107] : List UInt8) then (if 2 < (x0.length : Int) then ((impl_number.f k (rdOf ByteArray.empty x0 2)).bind fun bt271 => (some (4, x258001, x258002, bt271.1, x258004, bt271.2))) else (none)) else (some (x258000, x258001, x258002, x258003, x258004, x5)))))
end
def impl_operation.f (k : Nat) (l0 : List ByteArray) : Option (Int × ByteArray × ByteArray × Int × Bool × Bool) := if 0 < (l0.length : Int) then ((strconv_Itoa.f (rdOf ByteArray.empty l0 0)).bind fun t254 => (if t254 = (l0.length : Int) then ((slices_Contains_string_string.f k l0 (⟨#[59]⟩ : ByteArray)).bind fun t255 => (impl_operation.j0 k l0 t255)) else (impl_operation.j0 k l0 true))) else (none)
theorem impl_operation.mono_l : ∀ k, (∀ y0 y1, LeO (impl_operation.j0 k y0 y1) (impl_operation.j0 (k + 1) y0 y1)) ∧ (∀ y0 y1 y2 y3 y4 y5 y6 y7 y8, LeO (impl_operation.j1 k y0 y1 y2 y3 y4 y5 y6 y7 y8) (impl_operation.j1 (k + 1) y0 y1 y2 y3 y4 y5 y6 y7 y8))
 | 0 => ⟨fun _ _ r h => by simp [impl_operation.j0] at h, fun _ _ _ _ _ _ _ _ _ r h => by simp [impl_operation.j1] at h⟩
 | k + 1 => by
  obtain ⟨ih0, ih1⟩ := impl_operation.mono_l k
  refine ⟨?_, ?_⟩
  ·intro y0 y1
   unfold impl_operation.j0
   repeat' first
   | (with_reducible exact ih0 _ _)
   | (with_reducible exact ih1 _ _ _ _ _ _ _ _ _)
   | (with_reducible exact impl_number.mono _ _)
   | (with_reducible exact slices_Contains_string_string.mono _ _ _)
   | (with_reducible exact LeO.refl _)
   | (with_reducible exact LeO.none _)
   | (with_reducible refine LeO.ite ?_ ?_)
   | (with_reducible refine LeO.bind ?_ (fun _ => ?_))
   | exact ih0 _ _
   | exact ih1 _ _ _ _ _ _ _ _ _
   | exact impl_number.mono _ _
   | exact slices_Contains_string_string.mono _ _ _
   | exact LeO.none _
   | refine LeO.ite ?_ ?_
   | refine LeO.bind ?_ (fun _ => ?_)
  ·intro y0 y1 y2 y3 y4 y5 y6 y7 y8
   unfold impl_operation.j1
   repeat' first
   | (with_reducible exact ih0 _ _)
   | (with_reducible exact ih1 _ _ _ _ _ _ _ _ _)
   | (with_reducible exact impl_number.mono _ _)
   | (with_reducible exact slices_Contains_string_string.mono _ _ _)
   | (with_reducible exact LeO.refl _)
   | (with_reducible exact LeO.none _)
   | (with_reducible refine LeO.ite ?_ ?_)
   | (with_reducible refine LeO.bind ?_ (fun _ => ?_))
   | exact ih0 _ _
   | exact ih1 _ _ _ _ _ _ _ _ _
   | exact impl_number.mono _ _
   | exact slices_Contains_string_string.mono _ _ _
   | exact LeO.none _
   | refine LeO.ite ?_ ?_
   | refine LeO.bind ?_ (fun _ => ?_)
theorem impl_operation.mono : ∀ a0 k, LeO (impl_operation.f k a0) (impl_operation.f (k + 1) a0) := by
 intro a0 k
 obtain ⟨ih0, ih1⟩ := impl_operation.mono_l k
 unfold impl_operation.f
 repeat' first
   | (with_reducible exact ih0 _ _)
   | (with_reducible exact ih1 _ _ _ _ _ _ _ _ _)
   | (with_reducible exact impl_number.mono _ _)
   | (with_reducible exact slices_Contains_string_string.mono _ _ _)
   | (with_reducible exact LeO.refl _)
   | (with_reducible exact LeO.none _)
   | (with_reducible refine LeO.ite ?_ ?_)
   | (with_reducible refine LeO.bind ?_ (fun _ => ?_))
   | exact ih0 _ _
   | exact ih1 _ _ _ _ _ _ _ _ _
   | exact impl_number.mono _ _
   | exact slices_Contains_string_string.mono _ _ _
   | exact LeO.none _
   | refine LeO.ite ?_ ?_
   | refine LeO.bind ?_ (fun _ => ?_)
def impl_operation.T9 : Bool × List (List Nat × List Nat) := (true, [([], []), ([0], [0]), ([1], [1]), ([2], [2]), ([], []), ([4], [4]), ([5], [5]), ([6], [6]), ([], []), ([8, 3], [8]), ([0, 1, 2, 3, 8, 9], []), ([10, 3, 9, 0, 1, 2, 3, 8, 9], [3, 10]), ([0, 1, 2, 3, 4, 5, 6, 7, 8, 9, 10, 11], []), ([12, 7, 11, 0, 1, 2, 3, 4, 5, 6, 7, 8, 9, 10, 11], [7, 12])])
def impl_operation.B9 : List Nat := [0, 1, 3, 7, 0, 16, 48, 112, 0, 271, 783, 1807, 4095, 8191]
theorem impl_operation.tab9 : rtab .any (opsOf Tryd.f139 9) = impl_operation.T9 := by kernel_rfl
theorem impl_operation.bits9 : waitsOk impl_operation.T9.2 impl_operation.B9 = true := by kernel_rfl
set_option maxHeartbeats 8000000 in
set_option maxRecDepth 100000 in
theorem impl_operation.calls (k : Nat) (A0 : Option Addr) (c0 : Nat) (l0 : List ByteArray) (r1 : Int) (r2 : ByteArray) (r3 : ByteArray) (r4 : Int) (r5 : Bool) (r6 : Bool) (w : World) (hr0 : Kd.C Kd.string w A0 l0.length l0) (hc0 : l0.length ≤ c0) (h : impl_operation.f k l0 = some (r1, r2, r3, r4, r5, r6)) :
  Calls Tryd.prog 139 #[.slice A0 l0.length c0] w fun e w' => e = .returned (.tuple #[.agg #[.int .i64 r1, .string r2, .string r3, .int .i64 r4, .bool r5], .bool r6]) ∧ Below w.heap.size w w' := by
 have hmm := @run_makeMap Tryd.prog
 have hu124 := Tryd.underlying124
 have HR0 := Aside0.mk hr0
 have HC0 := Aside0.mk hc0
 clear hr0 hc0
 have HB := Aside0.mk (Below.refl w.heap.size w)
 have H : (if 0 < (l0.length : Int) then ((strconv_Itoa.f (rdOf ByteArray.empty l0 0)).bind fun t254 => (if t254 = (l0.length : Int) then ((slices_Contains_string_string.f k l0 (⟨#[59]⟩ : ByteArray)).bind fun t255 => (impl_operation.j0 k l0 t255)) else (impl_operation.j0 k l0 true))) else (none)) = some (r1, r2, r3, r4, r5, r6) := h
 clear h
 by_cases c2 : 0 < (l0.length : Int)
 ·rw [if_pos c2] at H
  have c2b0 : decide (0 < (l0.length : Int)) = true := decide_eq_true c2
  have c2b1 : decide (0 < l0.length) = true := decide_eq_true (by omega)
  clear c2
  replace H := Option.bind_eq_some_iff.mp H
  obtain ⟨t254, A30, H⟩ := H
  try dsimp only at H
  have A3 := Aside0.mk A30
  clear A30
  have HC4 := Aside0.mk H
  clear H
  go_enter Tryd.func139, Tryd.ntmps139
  go_upto_region 2 with (first | ((with_reducible refine zu (N := 2) rfl ?_); refine zz ?hg (N := 2) ?hd (cs := #[.int .i64 0, .string (⟨#[]⟩ : ByteArray), .string (⟨#[]⟩ : ByteArray), .int .i64 0, .bool false]) (t := 124) ?hr ?_; (case hd => rfl); (case hg => rfl); (case hr => first | (go_simp; done) | (go_simp; rfl)); intro zG hg w5 hbox hb; have n0_ := Aside0.mk (zm (by exact bl HB.out) hb); have n1_ := Aside0.mk (hbox); have n2_ := Aside0.mk ((by rw [hg]; exact (zn (by exact bl HB.out)) : w.heap.size ≤ zG)); have n3_ := Aside0.mk ((by rw [hg]; exact (zn (by exact bl HB.out)) : w.heap.size ≤ zG)); clear HB; have HB := n0_; have zD := n1_; have GW252 := n2_; have zH := n3_; clear n0_ n1_ n2_ n3_; clear hb hbox hg; have p253 : 0 ≤ (0 : Int) := (by omega); have q253 : 0 < (l0.length : Int) := of_decide_eq_true (by with_reducible assumption); obtain ⟨ad253, e253, hx253_0⟩ := Kd.at_string HR0.out 0 p253 q253; cases e253; have qi253 : (0 < l0.length) = True := eq_true (by omega); (try rw [show ((0 : Int)).toNat = 0 from rfl] at hx253_0); (try rw [Addr.add_zero'] at hx253_0); replace hx253_0 := zk HB.out hx253_0; replace p253 := eq_true p253; replace q253 := eq_true q253) | (refine Go.Proofs.YtfiojiokmkiflaaDoorH.ins_step (ve := fun v_ : Int => Value.int .i64 v_) (⟨#[99, 114, 101, 97, 116, 101]⟩ : ByteArray) 3 rfl rfl rfl rfl rfl rfl Tryd.underlying9 Tryd.underlying232 (Go.Proofs.YtfiojiokmkiflaaDoorH.MapS.made _) ?_; intro wi0_ hmi0_ hgi0_; refine Go.Proofs.YtfiojiokmkiflaaDoorH.ins_step (ve := fun v_ : Int => Value.int .i64 v_) (⟨#[115, 101, 113]⟩ : ByteArray) 3 rfl rfl rfl rfl rfl rfl Tryd.underlying9 Tryd.underlying232 hmi0_ ?_; intro wi1_ hmi1_ hgi1_; refine Go.Proofs.YtfiojiokmkiflaaDoorH.ins_step (ve := fun v_ : Int => Value.int .i64 v_) (⟨#[100, 101, 108, 101, 116, 101]⟩ : ByteArray) 3 rfl rfl rfl rfl rfl rfl Tryd.underlying9 Tryd.underlying232 hmi1_ ?_; intro wi2_ hmi2_ hgi2_; refine Go.Proofs.YtfiojiokmkiflaaDoorH.ins_step (ve := fun v_ : Int => Value.int .i64 v_) (⟨#[115, 101, 116]⟩ : ByteArray) 4 rfl rfl rfl rfl rfl rfl Tryd.underlying9 Tryd.underlying232 hmi2_ ?_; intro wi3_ hmi3_ hgi3_; refine Go.Proofs.YtfiojiokmkiflaaDoorH.ins_step (ve := fun v_ : Int => Value.int .i64 v_) (⟨#[99, 104, 101, 99, 107]⟩ : ByteArray) 3 rfl rfl rfl rfl rfl rfl Tryd.underlying9 Tryd.underlying232 hmi3_ ?_; intro w6 hmi4_ hgi4_; have hb := Go.Proofs.YtfiojiokmkiflaaDoorH.made_below ((((hgi0_.trans hgi1_).trans hgi2_).trans hgi3_).trans hgi4_); have hlk := want_look hmi4_ A3.out; clear hmi0_ hmi1_ hmi2_ hmi3_ hmi4_ hgi0_ hgi1_ hgi2_ hgi3_ hgi4_; (try replace hx253_0 := zk hb hx253_0); have n0_ := Aside0.mk (zp (g := zG) (o := .cells #[.int .i64 0, .string (⟨#[]⟩ : ByteArray), .string (⟨#[]⟩ : ByteArray), .int .i64 0, .bool false] 124 (0, 0)) (BL zD.out) hb); have n1_ := Aside0.mk (zm (by exact bl HB.out) hb); clear zD; clear HB; have zD := n0_; have HB := n1_; clear n0_ n1_; (try clear hb); (try clear hb2); (try clear hk); (try clear hi)))
  (try simp only [Act.put, List.setIfInBounds_toArray, List.set_cons_zero, List.set_cons_succ])
  go_cut [20] (fun v20 wc => ∃ (kq : Nat) (x20_3 : Bool), v20 = .bool x20_3 ∧ Aside0 (impl_operation.j0 kq l0 x20_3 = some (r1, r2, r3, r4, r5, r6)) ∧ Aside0 (kq ≤ k) ∧ Aside0 (wc.heap[zG]? = some (.cells #[.int .i64 0, .string (⟨#[]⟩ : ByteArray), .string (⟨#[]⟩ : ByteArray), .int .i64 0, .bool false] 124 (0, 0))) ∧ Aside0 (Below w.heap.size w wc))
  case first =>
   have H := HC4.out
   clear HC4
   by_cases c7 : t254 = (l0.length : Int)
   ·rw [if_pos c7] at H
    have c7b0 : (t254 == (l0.length : Int)) = true := beq_iff_eq.mpr c7
    have c7b1 : (t254 != (l0.length : Int)) = false := bne_eq_false_iff_eq.mpr c7
    clear c7
    (first | rw [c7b0] | (simp only [zr, zt]; rw [c7b0]) | skip)
    replace H := Option.bind_eq_some_iff.mp H
    obtain ⟨t255, A80, H⟩ := H
    try dsimp only at H
    have A8 := Aside0.mk A80
    clear A80
    have H' := Aside0.mk H
    clear H
    go_wp2_with (first | (go_at_call 160; (with_reducible refine (slices_Contains_string_string.calls k _ _ l0 (⟨#[59]⟩ : ByteArray) t255 _ ?side1 ?side2 A8.out).mono ?_); (case side1 => repeat (first | exact (Kd.C_below HR0.out HB.out) | (with_reducible refine Kd.C_alloc ?_ _) | (with_reducible refine Kd.C_drewN ?_ _) | (with_reducible refine Kd.C_drew ?_))); (case side2 => exact HC0.out); rintro e w' ⟨rfl, ⟨nd, rfl⟩⟩))
    go_meet
    case rel => exact ⟨_, (t255), (by first | rfl | (simp [*]; done)), H', ⟨by first | omega | exact Nat.le_refl _⟩, ⟨BL zD.out⟩, ⟨by repeat (first | (with_reducible first | exact HB.out | apply zh | apply zd | apply zi | refine zl ?_ zH.out) | exact HB.out)⟩⟩
   ·rw [if_neg c7] at H
    have c7b0 : (t254 == (l0.length : Int)) = false := beq_eq_false_iff_ne.mpr c7
    have c7b1 : (t254 != (l0.length : Int)) = true := bne_iff_ne.mpr c7
    (first | rw [c7b0] | (simp only [zr, zt]; rw [c7b0]) | skip)
    have H' := Aside0.mk H
    clear H
    go_wp2
    go_meet
    case rel => exact ⟨_, (true), (by first | rfl | (simp [*]; done)), H', ⟨by first | omega | exact Nat.le_refl _⟩, ⟨BL zD.out⟩, ⟨by repeat (first | (with_reducible first | exact HB.out | apply zh | apply zd | apply zi | refine zl ?_ zH.out) | exact HB.out)⟩⟩
  case rest =>
   clear HC4
   try clear c1
   try clear c2
   try clear c2b0
   try clear c2b1
   try clear p2
   try clear q2
   try clear hx2
   try clear qi2
   try clear c7
   try clear c7b0
   try clear c7b1
   try clear hx253_0
   try clear p253
   try clear q253
   obtain ⟨kq, x20_3, rfl, HA, HJ3, zD, HB⟩ := hcut
   cases kq with
   | zero => exact absurd HA.out (by simp [impl_operation.j0])
   | succ kj3 =>
    have H := HA.out
    clear HA
    simp only [impl_operation.j0] at H
    by_cases c9 : x20_3 = true
    ·subst c9
     rw [if_pos rfl] at H
     simp only [Option.some.injEq, Prod.mk.injEq] at H
     obtain ⟨rfl, rfl, rfl, rfl, rfl, rfl⟩ := H
     have zK : wc.cell? ⟨zG, 0, none⟩ = some (.int .i64 0) := (zc zD.out 0).trans rfl
     have zL : wc.cell? ⟨zG, 1, none⟩ = some (.string (⟨#[]⟩ : ByteArray)) := (zc zD.out 1).trans rfl
     have zM : wc.cell? ⟨zG, 2, none⟩ = some (.string (⟨#[]⟩ : ByteArray)) := (zc zD.out 2).trans rfl
     have zN : wc.cell? ⟨zG, 3, none⟩ = some (.int .i64 0) := (zc zD.out 3).trans rfl
     have zO : wc.cell? ⟨zG, 4, none⟩ = some (.bool false) := (zc zD.out 4).trans rfl
     have zP := zb zD.out 0
     have zQ := zb zD.out 1
     have zR := zb zD.out 2
     have zS := zb zD.out 3
     have zT := zb zD.out 4
     go_wp2
     refine bodyPost_ret (results_ct rfl _ _ zG 124 #[.int .i64 0, .string (⟨#[]⟩ : ByteArray), .string (⟨#[]⟩ : ByteArray), .int .i64 0, .bool false] (0, 0) _ rfl (bfin (by (repeat (first | (with_reducible first | refine zf ?_ _ | refine zj ?_ | refine ze ?_ _) | apply zA)); exact zD.out) (by rfl)) Tryd.underlying124 rfl (by kernel_rfl)) rfl ?_
     exact ⟨by first | rfl | (simp [*] <;> rfl), by repeat (first | (with_reducible first | exact HB.out | apply zh | apply zd | apply zi | refine zl ?_ zH.out) | exact HB.out)⟩
    ·replace c9 := Bool.eq_false_iff.mpr c9
     subst c9
     rw [if_neg (show ¬ (false = true) by decide)] at H
     by_cases c11 : 1 < (l0.length : Int)
     ·rw [if_pos c11] at H
      have c11b0 : decide (1 < (l0.length : Int)) = true := decide_eq_true c11
      have c11b1 : decide (1 < l0.length) = true := decide_eq_true (by omega)
      clear c11
      by_cases c12 : 0 < (l0.length : Int)
      ·rw [if_pos c12] at H
       have c12b0 : decide (0 < (l0.length : Int)) = true := decide_eq_true c12
       have c12b1 : decide (0 < l0.length) = true := decide_eq_true (by omega)
       clear c12
       have HC13 := Aside0.mk H
       clear H
       have p256 : 0 ≤ (1 : Int) := (by omega)
       have q256 : 1 < (l0.length : Int) := of_decide_eq_true (by with_reducible assumption)
       obtain ⟨ad256, e256, hx256_0⟩ := Kd.at_string HR0.out 1 p256 q256
       obtain rfl : ad253 = ad256 := (by injection e256)
       (try simp only [show (1 : Int).toNat = 1 from rfl, Nat.reduceMul, Nat.reduceEqDiff, Go.Addr.add, ↓reduceIte] at hx256_0)
       have qi256 : (1 < l0.length) = True := eq_true (by omega)
       (try rw [show ((1 : Int)).toNat = 1 from rfl] at hx256_0)
       replace hx256_0 := zk HB.out hx256_0
       replace p256 := eq_true p256
       replace q256 := eq_true q256
       go_upto_if 29 with (first | ((with_reducible refine zu (N := 6) rfl ?_); refine zz ?hg (N := 6) ?hd (cs := #[.int .i64 0, .string (⟨#[]⟩ : ByteArray), .string (⟨#[]⟩ : ByteArray), .int .i64 0, .bool false]) (t := 124) ?hr ?_; (case hd => rfl); (case hg => rfl); (case hr => first | (go_simp; done) | (go_simp; rfl)); intro zE hg w14 hbox hb; have n0_ := Aside0.mk (zp (g := zG) (o := .cells #[.int .i64 0, .string (⟨#[]⟩ : ByteArray), .string (⟨#[]⟩ : ByteArray), .int .i64 0, .bool false] 124 (0, 0)) (BL zD.out) hb); have n1_ := Aside0.mk (zm (by repeat (first | (with_reducible first | exact HB.out | apply zh | apply zd | apply zi | refine zl ?_ zH.out) | exact HB.out)) hb); have n2_ := Aside0.mk (hbox); have n3_ := Aside0.mk ((by rw [hg]; exact (zn (by repeat (first | (with_reducible first | exact HB.out | apply zh | apply zd | apply zi | refine zl ?_ zH.out) | exact HB.out))) : w.heap.size ≤ zE)); have n4_ := Aside0.mk ((by rw [hg]; exact (zn (by repeat (first | (with_reducible first | exact HB.out | apply zh | apply zd | apply zi | refine zl ?_ zH.out) | exact HB.out))) : w.heap.size ≤ zE)); have n5_ := Aside0.mk ((by rw [hg]; exact Nat.ne_of_lt (zB (g := zG) (o := .cells #[.int .i64 0, .string (⟨#[]⟩ : ByteArray), .string (⟨#[]⟩ : ByteArray), .int .i64 0, .bool false] 124 (0, 0)) (BL zD.out)) : zG ≠ zE)); have n6_ := Aside0.mk ((by rw [hg]; exact Nat.ne_of_gt (zB (g := zG) (o := .cells #[.int .i64 0, .string (⟨#[]⟩ : ByteArray), .string (⟨#[]⟩ : ByteArray), .int .i64 0, .bool false] 124 (0, 0)) (BL zD.out)) : zE ≠ zG)); clear zD; clear HB; have zD := n0_; have HB := n1_; have zC := n2_; have GW257 := n3_; have zJ := n4_; have zF := n5_; have zI := n6_; clear n0_ n1_ n2_ n3_ n4_ n5_ n6_; clear hb hbox hg; have zEd := zI.out; have zFd := zF.out; have zU : w14.cell? ⟨zE, 0, none⟩ = some (.int .i64 0) := (zc zC.out 0).trans rfl; have zV : w14.cell? ⟨zE, 1, none⟩ = some (.string (⟨#[]⟩ : ByteArray)) := (zc zC.out 1).trans rfl; have zW : w14.cell? ⟨zE, 2, none⟩ = some (.string (⟨#[]⟩ : ByteArray)) := (zc zC.out 2).trans rfl; have zX : w14.cell? ⟨zE, 3, none⟩ = some (.int .i64 0) := (zc zC.out 3).trans rfl; have zY : w14.cell? ⟨zE, 4, none⟩ = some (.bool false) := (zc zC.out 4).trans rfl; have zZ := zb zC.out 0; have zab := zb zC.out 1; have zbb := zb zC.out 2; have zcb := zb zC.out 3; have zdb := zb zC.out 4; have p258 : 0 ≤ (0 : Int) := (by omega); have q258 : 0 < (l0.length : Int) := of_decide_eq_true (by with_reducible assumption); obtain ⟨ad258, e258, hx258_0⟩ := Kd.at_string HR0.out 0 p258 q258; obtain rfl : ad253 = ad258 := (by injection e258); have qi258 : (0 < l0.length) = True := eq_true (by omega); (try rw [show ((0 : Int)).toNat = 0 from rfl] at hx258_0); (try rw [Addr.add_zero'] at hx258_0); have hn258_0 : ad253.block ≠ zE := Nat.ne_of_lt (Nat.lt_of_lt_of_le (by have := World.block_lt_of_cell? _ _ hx258_0; first | rwa [zg] at this | exact this) GW257.out); have hn258_1 : ad253.block ≠ zE := Nat.ne_of_lt (Nat.lt_of_lt_of_le (by have := World.block_lt_of_cell? _ _ hx258_0; first | rwa [zg] at this | exact this) GW257.out); have hn258_2 : ad253.block ≠ zE := Nat.ne_of_lt (Nat.lt_of_lt_of_le (by have := World.block_lt_of_cell? _ _ hx258_0; first | rwa [zg] at this | exact this) GW257.out); have hn258_3 : ad253.block ≠ zE := Nat.ne_of_lt (Nat.lt_of_lt_of_le (by have := World.block_lt_of_cell? _ _ hx258_0; first | rwa [zg] at this | exact this) GW257.out); have hn258_4 : ad253.block ≠ zE := Nat.ne_of_lt (Nat.lt_of_lt_of_le (by have := World.block_lt_of_cell? _ _ hx258_0; first | rwa [zg] at this | exact this) GW257.out); replace hx258_0 := zk HB.out hx258_0; replace hx258_0 := (zw (p := ⟨zE, 0, none⟩) (by first | (rw [zg]; exact hn258_0) | (show (Addr.add _ _).block ≠ _; rw [zg]; exact hn258_0) | exact hn258_0) (.int .i64 0)).trans hx258_0; replace hx258_0 := (zw (p := ⟨zE, 1, none⟩) (by first | (rw [zg]; exact hn258_1) | (show (Addr.add _ _).block ≠ _; rw [zg]; exact hn258_1) | exact hn258_1) (.string (rdOf ByteArray.empty l0 1))).trans hx258_0; replace hx258_0 := (zw (p := ⟨zE, 2, none⟩) (by first | (rw [zg]; exact hn258_2) | (show (Addr.add _ _).block ≠ _; rw [zg]; exact hn258_2) | exact hn258_2) (.string (⟨#[]⟩ : ByteArray))).trans hx258_0; replace hx258_0 := (zw (p := ⟨zE, 3, none⟩) (by first | (rw [zg]; exact hn258_3) | (show (Addr.add _ _).block ≠ _; rw [zg]; exact hn258_3) | exact hn258_3) (.int .i64 0)).trans hx258_0; replace hx258_0 := (zw (p := ⟨zE, 4, none⟩) (by first | (rw [zg]; exact hn258_4) | (show (Addr.add _ _).block ≠ _; rw [zg]; exact hn258_4) | exact hn258_4) (.bool false)).trans hx258_0; clear hn258_0; clear hn258_1; clear hn258_2; clear hn258_3; clear hn258_4; replace p258 := eq_true p258; replace q258 := eq_true q258))
       (try simp only [Act.put, List.setIfInBounds_toArray, List.set_cons_zero, List.set_cons_succ])
       go_cut [29] (fun v29 wc => ∃ (kq : Nat) (x29_12 : Bool), v29 = .bool x29_12 ∧ Aside0 (impl_operation.j1 kq l0 true (rdOf ByteArray.empty l0 0) x29_12 0 (rdOf ByteArray.empty l0 1) (⟨#[]⟩ : ByteArray) 0 false = some (r1, r2, r3, r4, r5, r6)) ∧ Aside0 (kq ≤ kj3) ∧ Aside0 (wc.heap[zG]? = some (.cells #[.int .i64 0, .string (⟨#[]⟩ : ByteArray), .string (⟨#[]⟩ : ByteArray), .int .i64 0, .bool false] 124 (0, 0))) ∧ Aside0 (wc.heap[zE]? = some (.cells #[.int .i64 0, .string (rdOf ByteArray.empty l0 1), .string (⟨#[]⟩ : ByteArray), .int .i64 0, .bool false] 124 (0, 0))) ∧ Aside0 (Below w.heap.size w wc))
       case first =>
        have H := HC13.out
        clear HC13
        by_cases c17 : (rdOf ByteArray.empty l0 0).toList = ([99, 114, 101, 97, 116, 101] : List UInt8)
        ·rw [if_pos c17] at H
         have c17b0 : ((rdOf ByteArray.empty l0 0).toList == ([99, 114, 101, 97, 116, 101] : List UInt8)) = true := beq_iff_eq.mpr c17
         have c17b1 : ((rdOf ByteArray.empty l0 0).toList != ([99, 114, 101, 97, 116, 101] : List UInt8)) = false := bne_eq_false_iff_eq.mpr c17
         clear c17
         (first | rw [c17b0] | (simp only [zr, zt]; rw [c17b0]) | skip)
         have H' := Aside0.mk H
         clear H
         go_wp2
         go_meet
         case rel => exact ⟨_, (((rdOf ByteArray.empty l0 0).toList == ([99, 114, 101, 97, 116, 101] : List UInt8))), (by first | rfl | (simp [*]; done)), H', ⟨by have := HJ3.out; first | omega | exact Nat.le_refl _⟩, ⟨by (with_reducible repeat (first | refine zf ?_ _ | refine zj ?_ | refine ze ?_ _)); refine zq ?_ zF.out _; (with_reducible repeat (first | refine zf ?_ _ | refine zj ?_ | refine ze ?_ _)); refine zq ?_ zF.out _; (with_reducible repeat (first | refine zf ?_ _ | refine zj ?_ | refine ze ?_ _)); refine zq ?_ zF.out _; (with_reducible repeat (first | refine zf ?_ _ | refine zj ?_ | refine ze ?_ _)); refine zq ?_ zF.out _; (with_reducible repeat (first | refine zf ?_ _ | refine zj ?_ | refine ze ?_ _)); refine zq ?_ zF.out _; (with_reducible repeat (first | refine zf ?_ _ | refine zj ?_ | refine ze ?_ _)); exact zD.out⟩, ⟨by (with_reducible repeat (first | refine zf ?_ _ | refine zj ?_ | refine ze ?_ _)); refine zx (cs := #[.int .i64 0, .string (rdOf ByteArray.empty l0 1), .string (⟨#[]⟩ : ByteArray), .int .i64 0, .bool false]) ?_ 4 _ rfl; (with_reducible repeat (first | refine zf ?_ _ | refine zj ?_ | refine ze ?_ _)); refine zx (cs := #[.int .i64 0, .string (rdOf ByteArray.empty l0 1), .string (⟨#[]⟩ : ByteArray), .int .i64 0, .bool false]) ?_ 3 _ rfl; (with_reducible repeat (first | refine zf ?_ _ | refine zj ?_ | refine ze ?_ _)); refine zx (cs := #[.int .i64 0, .string (rdOf ByteArray.empty l0 1), .string (⟨#[]⟩ : ByteArray), .int .i64 0, .bool false]) ?_ 2 _ rfl; (with_reducible repeat (first | refine zf ?_ _ | refine zj ?_ | refine ze ?_ _)); refine zx (cs := #[.int .i64 0, .string (⟨#[]⟩ : ByteArray), .string (⟨#[]⟩ : ByteArray), .int .i64 0, .bool false]) ?_ 1 _ rfl; (with_reducible repeat (first | refine zf ?_ _ | refine zj ?_ | refine ze ?_ _)); refine zx (cs := #[.int .i64 0, .string (⟨#[]⟩ : ByteArray), .string (⟨#[]⟩ : ByteArray), .int .i64 0, .bool false]) ?_ 0 _ rfl; (with_reducible repeat (first | refine zf ?_ _ | refine zj ?_ | refine ze ?_ _)); exact zC.out⟩, ⟨by repeat (first | (with_reducible first | exact HB.out | apply zh | apply zd | apply zi | refine zl ?_ zH.out | refine zl ?_ zJ.out) | exact HB.out)⟩⟩
        ·rw [if_neg c17] at H
         have c17b0 : ((rdOf ByteArray.empty l0 0).toList == ([99, 114, 101, 97, 116, 101] : List UInt8)) = false := beq_eq_false_iff_ne.mpr c17
         have c17b1 : ((rdOf ByteArray.empty l0 0).toList != ([99, 114, 101, 97, 116, 101] : List UInt8)) = true := bne_iff_ne.mpr c17
         (first | rw [c17b0] | (simp only [zr, zt]; rw [c17b0]) | skip)
         have H' := Aside0.mk H
         clear H
         go_wp2
         go_meet
         case rel => exact ⟨_, (((rdOf ByteArray.empty l0 0).toList == ([115, 101, 113] : List UInt8))), (by first | rfl | (simp [*]; done)), H', ⟨by have := HJ3.out; first | omega | exact Nat.le_refl _⟩, ⟨by (with_reducible repeat (first | refine zf ?_ _ | refine zj ?_ | refine ze ?_ _)); refine zq ?_ zF.out _; (with_reducible repeat (first | refine zf ?_ _ | refine zj ?_ | refine ze ?_ _)); refine zq ?_ zF.out _; (with_reducible repeat (first | refine zf ?_ _ | refine zj ?_ | refine ze ?_ _)); refine zq ?_ zF.out _; (with_reducible repeat (first | refine zf ?_ _ | refine zj ?_ | refine ze ?_ _)); refine zq ?_ zF.out _; (with_reducible repeat (first | refine zf ?_ _ | refine zj ?_ | refine ze ?_ _)); refine zq ?_ zF.out _; (with_reducible repeat (first | refine zf ?_ _ | refine zj ?_ | refine ze ?_ _)); exact zD.out⟩, ⟨by (with_reducible repeat (first | refine zf ?_ _ | refine zj ?_ | refine ze ?_ _)); refine zx (cs := #[.int .i64 0, .string (rdOf ByteArray.empty l0 1), .string (⟨#[]⟩ : ByteArray), .int .i64 0, .bool false]) ?_ 4 _ rfl; (with_reducible repeat (first | refine zf ?_ _ | refine zj ?_ | refine ze ?_ _)); refine zx (cs := #[.int .i64 0, .string (rdOf ByteArray.empty l0 1), .string (⟨#[]⟩ : ByteArray), .int .i64 0, .bool false]) ?_ 3 _ rfl; (with_reducible repeat (first | refine zf ?_ _ | refine zj ?_ | refine ze ?_ _)); refine zx (cs := #[.int .i64 0, .string (rdOf ByteArray.empty l0 1), .string (⟨#[]⟩ : ByteArray), .int .i64 0, .bool false]) ?_ 2 _ rfl; (with_reducible repeat (first | refine zf ?_ _ | refine zj ?_ | refine ze ?_ _)); refine zx (cs := #[.int .i64 0, .string (⟨#[]⟩ : ByteArray), .string (⟨#[]⟩ : ByteArray), .int .i64 0, .bool false]) ?_ 1 _ rfl; (with_reducible repeat (first | refine zf ?_ _ | refine zj ?_ | refine ze ?_ _)); refine zx (cs := #[.int .i64 0, .string (⟨#[]⟩ : ByteArray), .string (⟨#[]⟩ : ByteArray), .int .i64 0, .bool false]) ?_ 0 _ rfl; (with_reducible repeat (first | refine zf ?_ _ | refine zj ?_ | refine ze ?_ _)); exact zC.out⟩, ⟨by repeat (first | (with_reducible first | exact HB.out | apply zh | apply zd | apply zi | refine zl ?_ zH.out | refine zl ?_ zJ.out) | exact HB.out)⟩⟩
       case rest =>
        clear HC13
        try clear c1
        try clear c2
        try clear c2b0
        try clear c2b1
        try clear p2
        try clear q2
        try clear hx2
        try clear qi2
        try clear c7
        try clear c7b0
        try clear c7b1
        try clear c9
        try clear c11
        try clear c11b0
        try clear c11b1
        try clear c12
        try clear c12b0
        try clear c12b1
        try clear c13
        try clear c15
        try clear c17
        try clear c17b0
        try clear c17b1
        try clear zK
        try clear zL
        try clear zM
        try clear zN
        try clear zO
        try clear zU
        try clear zV
        try clear zW
        try clear zX
        try clear zY
        try clear zP
        try clear zQ
        try clear zR
        try clear zS
        try clear zT
        try clear zZ
        try clear zab
        try clear zbb
        try clear zcb
        try clear zdb
        try clear hx253_0
        try clear hx256_0
        try clear hx258_0
        try clear p2
        try clear p253
        try clear p256
        try clear p258
        try clear q2
        try clear q253
        try clear q256
        try clear q258
        obtain ⟨kq, x29_12, rfl, HA, HJ12, zD, zC, HB⟩ := hcut
        cases kq with
        | zero => exact absurd HA.out (by simp [impl_operation.j1])
        | succ kj12 =>
         have H := HA.out
         clear HA
         simp only [impl_operation.j1] at H
         by_cases c18 : x29_12 = true
         ·subst c18
          rw [if_pos rfl] at H
          by_cases c19 : 2 < (l0.length : Int)
          ·rw [if_pos c19] at H
           have c19b0 : decide (2 < (l0.length : Int)) = true := decide_eq_true c19
           have c19b1 : decide (2 < l0.length) = true := decide_eq_true (by omega)
           clear c19
           replace H := Option.bind_eq_some_iff.mp H
           obtain ⟨t260, A200, H⟩ := H
           try dsimp only at H
           have A20 := Aside0.mk A200
           clear A200
           by_cases c21 : 0 < (l0.length : Int)
           ·rw [if_pos c21] at H
            have c21b0 : decide (0 < (l0.length : Int)) = true := decide_eq_true c21
            have c21b1 : decide (0 < l0.length) = true := decide_eq_true (by omega)
            clear c21
            simp only [Option.some.injEq, Prod.mk.injEq] at H
            obtain ⟨rfl, rfl, rfl, rfl, rfl, rfl⟩ := H
            try go_wp2
            have n0_ := Aside0.mk (zj zD.out)
            have n1_ := Aside0.mk (zj zC.out)
            have n2_ := Aside0.mk (zi HB.out)
            clear zD
            clear zC
            clear HB
            have zD := n0_
            have zC := n1_
            have HB := n2_
            clear n0_ n1_ n2_
            have p259 : 0 ≤ (2 : Int) := (by omega)
            have q259 : 2 < (l0.length : Int) := of_decide_eq_true (by with_reducible assumption)
            obtain ⟨ad259, e259, hx259_0⟩ := Kd.at_string HR0.out 2 p259 q259
            have hw259_0 := hx259_0
            (try rw [show ((2 : Int)).toNat = 2 from rfl] at hw259_0)
            (try rw [show 2 * 1 = 2 from rfl] at hw259_0)
            (try simp only [Nat.reduceMul, Nat.reduceEqDiff, Go.Addr.add, ↓reduceIte] at hw259_0)
            obtain rfl : ad253 = ad259 := (by injection e259)
            (try simp only [show (2 : Int).toNat = 2 from rfl, Nat.reduceMul, Nat.reduceEqDiff, Go.Addr.add, ↓reduceIte] at hx259_0)
            have qi259 : (2 < l0.length) = True := eq_true (by omega)
            (try rw [show ((2 : Int)).toNat = 2 from rfl] at hx259_0)
            replace hx259_0 := zk HB.out hx259_0
            replace p259 := eq_true p259
            replace q259 := eq_true q259
            have p261 : 0 ≤ (0 : Int) := (by omega)
            have q261 : 0 < (l0.length : Int) := of_decide_eq_true (by with_reducible assumption)
            obtain ⟨ad261, e261, hx261_0⟩ := Kd.at_string HR0.out 0 p261 q261
            have hw261_0 := hx261_0
            (try rw [show ((0 : Int)).toNat = 0 from rfl] at hw261_0)
            (try rw [show 0 * 1 = 0 from rfl] at hw261_0)
            (try rw [Addr.add_zero'] at hw261_0)
            obtain rfl : ad253 = ad261 := (by injection e261)
            have qi261 : (0 < l0.length) = True := eq_true (by omega)
            (try rw [show ((0 : Int)).toNat = 0 from rfl] at hx261_0)
            (try rw [Addr.add_zero'] at hx261_0)
            replace hx261_0 := zk HB.out hx261_0
            replace p261 := eq_true p261
            replace q261 := eq_true q261
            refine start_ (n := 14) (S := fun w' => w'.cell? ⟨ad253.block, ad253.off + 2, none⟩ = some (.string (rdOf ByteArray.empty l0 2)) ∧ w'.cell? ad253 = some (.string (rdOf ByteArray.empty l0 0))) (ds := []) #[false, false, false, false, false, false, false, false, false, false, false, false, false, false] (by kernel_rfl) rfl rfl ⟨(zk HB.out hw259_0), (zk HB.out hw261_0)⟩ (fun hHeld => ?_); refine with_tabW impl_operation.tab9 impl_operation.bits9 (fun HT_ HW_ => ?_)
            generalize wc.drew = w22 at zD zC HB hx259_0 hx261_0 hHeld ⊢
            refine pu 0 32 rfl rfl (any_of HT_.out (by kernel_rfl)) (fun _ _ _ _ h => h) (by rfl) ⟨_, _, fun w' => by go_simp; rfl, by simp only [pt, ps, p0, p1, zr, zt]; rfl, ?_⟩
            refine pu 1 33 rfl rfl (any_of HT_.out (by kernel_rfl)) (fun _ _ _ _ h => h) (by rfl) ⟨_, _, fun w' => by go_simp; rfl, by simp only [pt, ps, p0, p1, zr, zt]; rfl, ?_⟩
            refine pu 4 36 rfl rfl (any_of HT_.out (by kernel_rfl)) (fun _ _ _ _ h => h) (by rfl) ⟨_, _, fun w' => by go_simp; rfl, by simp only [pt, ps, p0, p1, zr, zt]; rfl, ?_⟩
            refine pu 5 37 rfl rfl (any_of HT_.out (by kernel_rfl)) (fun _ _ _ _ h => h) (by rfl) ⟨_, _, fun w' => by go_simp; rfl, by simp only [pt, ps, p0, p1, zr, zt]; rfl, ?_⟩
            refine pu 8 40 rfl rfl (any_of HT_.out (by kernel_rfl)) (fun _ _ _ _ h => h) (by rfl) ⟨_, _, fun w' => by go_simp; rfl, by simp only [pt, ps, p0, p1, zr, zt]; rfl, ?_⟩
            refine ta 2 34 rfl rfl (take_ofW HT_.out HW_.out (by kernel_rfl)) (fun _ _ _ _ h => h) (by rfl) hHeld ⟨_, _, by rintro w' ⟨s0, s1⟩; go_simp; rfl, by simp only [pt, ps, p0, p1, zr, zt]; rfl, ?_⟩
            refine ta 6 38 rfl rfl (take_ofW HT_.out HW_.out (by kernel_rfl)) (fun _ _ _ _ h => h) (by rfl) hHeld ⟨_, _, by rintro w' ⟨s0, s1⟩; go_simp; rfl, by simp only [pt, ps, p0, p1, zr, zt]; rfl, ?_⟩
            refine pu 7 39 rfl rfl (any_of HT_.out (by kernel_rfl)) (fun _ _ _ _ h => h) (by rfl) ⟨_, _, fun w' => by go_simp; rfl, by simp only [pt, ps, p0, p1, zr, zt]; rfl, ?_⟩
            refine one_ (i := 3) (N := some 35) #[true, true, true, true, true, true, true, true, true, false, false, false, false, false] rfl rfl (one_of HT_.out (by kernel_rfl)) (by decide) (fun K hK => ?_)
            refine goes_ Tryd.func161 (by kernel_rfl) rfl #[.string (rdOf ByteArray.empty l0 2)] (by rfl) rfl rfl (by (try simp only [List.map_toArray, List.map_cons, List.map_nil]); first | done | rfl) ?_
            with_reducible refine (impl_data.calls (rdOf ByteArray.empty l0 2) t260 _ A20.out).mono ?_
            rintro e w' ⟨rfl, ⟨nd, rfl⟩⟩
            refine ⟨_, rfl, ?_⟩
            refine hK.out _ _ ⟨(zk HB.out hw259_0), (zk HB.out hw261_0)⟩ (fun hHeld => ?_)
            clear hK K
            refine norm_ (a' := ?_) ?_ ?_
            rotate_left
            ·show Act.put _ (some 35) _ = _
             simp only [pt, ps, p0, p1, zr, zt]
             rfl
            refine one_ (i := 9) (N := none) #[true, true, true, true, true, true, true, true, true, true, false, false, false, false] rfl rfl (one_of HT_.out (by kernel_rfl)) (by decide) (fun K hK => ?_)
            have hs23 : w22.cell? ⟨zE, 0, none⟩ = some (.int .i64 0) := (zc zC.out 0).trans rfl
            have hfs23 := zb zC.out 0
            have hns23_0 := zF.out
            have hms23_0 := zI.out
            refine skip_ (w1 := ?_) (by rfl) rfl ?_ ?_
            rotate_left
            ·go_simp
             rfl
            refine hK.out _ _ ⟨((zw (p := ⟨zE, _, none⟩) (by first | exact Nat.ne_of_lt (Nat.lt_of_lt_of_le (by have := World.block_lt_of_cell? _ _ hw259_0; first | rwa [zg] at this | exact this) GW257.out) | (rw [zg]; exact Nat.ne_of_lt (Nat.lt_of_lt_of_le (by have := World.block_lt_of_cell? _ _ hw259_0; first | rwa [zg] at this | exact this) GW257.out)) | (show (Addr.add _ _).block ≠ _; rw [zg]; exact Nat.ne_of_lt (Nat.lt_of_lt_of_le (by have := World.block_lt_of_cell? _ _ hw259_0; first | rwa [zg] at this | exact this) GW257.out)) | (dsimp only; exact Nat.ne_of_lt (Nat.lt_of_lt_of_le (by have := World.block_lt_of_cell? _ _ hw259_0; first | rwa [zg] at this | exact this) GW257.out))) _).trans (hHeld.1)), ((zw (p := ⟨zE, _, none⟩) (by first | exact Nat.ne_of_lt (Nat.lt_of_lt_of_le (by have := World.block_lt_of_cell? _ _ hw261_0; first | rwa [zg] at this | exact this) GW257.out) | (rw [zg]; exact Nat.ne_of_lt (Nat.lt_of_lt_of_le (by have := World.block_lt_of_cell? _ _ hw261_0; first | rwa [zg] at this | exact this) GW257.out)) | (show (Addr.add _ _).block ≠ _; rw [zg]; exact Nat.ne_of_lt (Nat.lt_of_lt_of_le (by have := World.block_lt_of_cell? _ _ hw261_0; first | rwa [zg] at this | exact this) GW257.out)) | (dsimp only; exact Nat.ne_of_lt (Nat.lt_of_lt_of_le (by have := World.block_lt_of_cell? _ _ hw261_0; first | rwa [zg] at this | exact this) GW257.out))) _).trans (hHeld.2))⟩ (fun hHeld => ?_)
            clear hK K
            refine pu 10 41 rfl rfl (any_of HT_.out (by kernel_rfl)) (fun _ _ _ _ h => h) (by rfl) ⟨_, _, fun w' => by go_simp; rfl, by simp only [pt, ps, p0, p1, zr, zt]; rfl, ?_⟩
            refine one_ (i := 11) (N := none) #[true, true, true, true, true, true, true, true, true, true, true, true, false, false] rfl rfl (one_of HT_.out (by kernel_rfl)) (by decide) (fun K hK => ?_)
            have hs24 : w22.cell? ⟨zE, 2, none⟩ = some (.string (⟨#[]⟩ : ByteArray)) := (zc zC.out 2).trans rfl
            have hfs24 := zb zC.out 2
            have hns24_0 := zF.out
            have hms24_0 := zI.out
            refine skip_ (w1 := ?_) (by rfl) rfl ?_ ?_
            rotate_left
            ·go_simp
             rfl
            refine hK.out _ _ ⟨((zw (p := ⟨zE, _, none⟩) (by first | exact Nat.ne_of_lt (Nat.lt_of_lt_of_le (by have := World.block_lt_of_cell? _ _ hw259_0; first | rwa [zg] at this | exact this) GW257.out) | (rw [zg]; exact Nat.ne_of_lt (Nat.lt_of_lt_of_le (by have := World.block_lt_of_cell? _ _ hw259_0; first | rwa [zg] at this | exact this) GW257.out)) | (show (Addr.add _ _).block ≠ _; rw [zg]; exact Nat.ne_of_lt (Nat.lt_of_lt_of_le (by have := World.block_lt_of_cell? _ _ hw259_0; first | rwa [zg] at this | exact this) GW257.out)) | (dsimp only; exact Nat.ne_of_lt (Nat.lt_of_lt_of_le (by have := World.block_lt_of_cell? _ _ hw259_0; first | rwa [zg] at this | exact this) GW257.out))) _).trans (hHeld.1)), ((zw (p := ⟨zE, _, none⟩) (by first | exact Nat.ne_of_lt (Nat.lt_of_lt_of_le (by have := World.block_lt_of_cell? _ _ hw261_0; first | rwa [zg] at this | exact this) GW257.out) | (rw [zg]; exact Nat.ne_of_lt (Nat.lt_of_lt_of_le (by have := World.block_lt_of_cell? _ _ hw261_0; first | rwa [zg] at this | exact this) GW257.out)) | (show (Addr.add _ _).block ≠ _; rw [zg]; exact Nat.ne_of_lt (Nat.lt_of_lt_of_le (by have := World.block_lt_of_cell? _ _ hw261_0; first | rwa [zg] at this | exact this) GW257.out)) | (dsimp only; exact Nat.ne_of_lt (Nat.lt_of_lt_of_le (by have := World.block_lt_of_cell? _ _ hw261_0; first | rwa [zg] at this | exact this) GW257.out))) _).trans (hHeld.2))⟩ (fun hHeld => ?_)
            clear hK K
            refine pu 12 42 rfl rfl (any_of HT_.out (by kernel_rfl)) (fun _ _ _ _ h => h) (by rfl) ⟨_, _, fun w' => by go_simp; rfl, by simp only [pt, ps, p0, p1, zr, zt]; rfl, ?_⟩
            refine one_ (i := 13) (N := none) #[true, true, true, true, true, true, true, true, true, true, true, true, true, true] rfl rfl (one_of HT_.out (by kernel_rfl)) (by decide) (fun K hK => ?_)
            have hs25 : w22.cell? ⟨zE, 4, none⟩ = some (.bool false) := (zc zC.out 4).trans rfl
            have hfs25 := zb zC.out 4
            have hns25_0 := zF.out
            have hms25_0 := zI.out
            refine skip_ (w1 := ?_) (by rfl) rfl ?_ ?_
            rotate_left
            ·go_simp
             rfl
            refine hK.out _ _ ⟨((zw (p := ⟨zE, _, none⟩) (by first | exact Nat.ne_of_lt (Nat.lt_of_lt_of_le (by have := World.block_lt_of_cell? _ _ hw259_0; first | rwa [zg] at this | exact this) GW257.out) | (rw [zg]; exact Nat.ne_of_lt (Nat.lt_of_lt_of_le (by have := World.block_lt_of_cell? _ _ hw259_0; first | rwa [zg] at this | exact this) GW257.out)) | (show (Addr.add _ _).block ≠ _; rw [zg]; exact Nat.ne_of_lt (Nat.lt_of_lt_of_le (by have := World.block_lt_of_cell? _ _ hw259_0; first | rwa [zg] at this | exact this) GW257.out)) | (dsimp only; exact Nat.ne_of_lt (Nat.lt_of_lt_of_le (by have := World.block_lt_of_cell? _ _ hw259_0; first | rwa [zg] at this | exact this) GW257.out))) _).trans (hHeld.1)), ((zw (p := ⟨zE, _, none⟩) (by first | exact Nat.ne_of_lt (Nat.lt_of_lt_of_le (by have := World.block_lt_of_cell? _ _ hw261_0; first | rwa [zg] at this | exact this) GW257.out) | (rw [zg]; exact Nat.ne_of_lt (Nat.lt_of_lt_of_le (by have := World.block_lt_of_cell? _ _ hw261_0; first | rwa [zg] at this | exact this) GW257.out)) | (show (Addr.add _ _).block ≠ _; rw [zg]; exact Nat.ne_of_lt (Nat.lt_of_lt_of_le (by have := World.block_lt_of_cell? _ _ hw261_0; first | rwa [zg] at this | exact this) GW257.out)) | (dsimp only; exact Nat.ne_of_lt (Nat.lt_of_lt_of_le (by have := World.block_lt_of_cell? _ _ hw261_0; first | rwa [zg] at this | exact this) GW257.out))) _).trans (hHeld.2))⟩ (fun hHeld => ?_)
            clear hK K
            refine done_ (done_of HT_.out (by kernel_rfl)) ?_
            have zGd := zI.out
            have zHd := zF.out
            have zeb : w22.cell? ⟨zE, 0, none⟩ = some (.int .i64 0) := (zc zC.out 0).trans rfl
            have zfb : w22.cell? ⟨zE, 1, none⟩ = some (.string (rdOf ByteArray.empty l0 1)) := (zc zC.out 1).trans rfl
            have zgb : w22.cell? ⟨zE, 2, none⟩ = some (.string (⟨#[]⟩ : ByteArray)) := (zc zC.out 2).trans rfl
            have zhb : w22.cell? ⟨zE, 3, none⟩ = some (.int .i64 0) := (zc zC.out 3).trans rfl
            have zib : w22.cell? ⟨zE, 4, none⟩ = some (.bool false) := (zc zC.out 4).trans rfl
            have zjb := zb zC.out 0
            have zkb := zb zC.out 1
            have zlb := zb zC.out 2
            have zmb := zb zC.out 3
            have znb := zb zC.out 4
            have zob : w22.cell? ⟨zG, 0, none⟩ = some (.int .i64 0) := (zc zD.out 0).trans rfl
            have zpb : w22.cell? ⟨zG, 1, none⟩ = some (.string (⟨#[]⟩ : ByteArray)) := (zc zD.out 1).trans rfl
            have zqb : w22.cell? ⟨zG, 2, none⟩ = some (.string (⟨#[]⟩ : ByteArray)) := (zc zD.out 2).trans rfl
            have zrb : w22.cell? ⟨zG, 3, none⟩ = some (.int .i64 0) := (zc zD.out 3).trans rfl
            have zsb : w22.cell? ⟨zG, 4, none⟩ = some (.bool false) := (zc zD.out 4).trans rfl
            have ztb := zb zD.out 0
            have zub := zb zD.out 1
            have zvb := zb zD.out 2
            have zwb := zb zD.out 3
            have zxb := zb zD.out 4
            try go_wp2
            refine bodyPost_ret (results_ct rfl _ _ zG 124 #[.int .i64 1, .string (rdOf ByteArray.empty l0 1), .string t260, .int .i64 0, .bool ((rdOf ByteArray.empty l0 0).toList == ([115, 101, 113] : List UInt8))] (0, 0) _ rfl (by (with_reducible repeat (first | refine zf ?_ _ | refine zj ?_ | refine ze ?_ _)); refine zx (cs := #[.int .i64 1, .string (rdOf ByteArray.empty l0 1), .string t260, .int .i64 0, .bool false]) ?_ 4 _ rfl; (with_reducible repeat (first | refine zf ?_ _ | refine zj ?_ | refine ze ?_ _)); refine zx (cs := #[.int .i64 1, .string (rdOf ByteArray.empty l0 1), .string t260, .int .i64 0, .bool false]) ?_ 3 _ rfl; (with_reducible repeat (first | refine zf ?_ _ | refine zj ?_ | refine ze ?_ _)); refine zx (cs := #[.int .i64 1, .string (rdOf ByteArray.empty l0 1), .string (⟨#[]⟩ : ByteArray), .int .i64 0, .bool false]) ?_ 2 _ rfl; (with_reducible repeat (first | refine zf ?_ _ | refine zj ?_ | refine ze ?_ _)); refine zx (cs := #[.int .i64 1, .string (⟨#[]⟩ : ByteArray), .string (⟨#[]⟩ : ByteArray), .int .i64 0, .bool false]) ?_ 1 _ rfl; (with_reducible repeat (first | refine zf ?_ _ | refine zj ?_ | refine ze ?_ _)); refine zx (cs := #[.int .i64 0, .string (⟨#[]⟩ : ByteArray), .string (⟨#[]⟩ : ByteArray), .int .i64 0, .bool false]) ?_ 0 _ rfl; (with_reducible repeat (first | refine zf ?_ _ | refine zj ?_ | refine ze ?_ _)); refine zq ?_ zF.out _; (with_reducible repeat (first | refine zf ?_ _ | refine zj ?_ | refine ze ?_ _)); refine zq ?_ zF.out _; (with_reducible repeat (first | refine zf ?_ _ | refine zj ?_ | refine ze ?_ _)); refine zq ?_ zF.out _; (with_reducible repeat (first | refine zf ?_ _ | refine zj ?_ | refine ze ?_ _)); exact zD.out) Tryd.underlying124 rfl (by kernel_rfl)) rfl ?_
            exact ⟨by first | rfl | (simp [*] <;> rfl), by repeat (first | (with_reducible first | exact HB.out | apply zh | apply zd | apply zi | refine zl ?_ zH.out | refine zl ?_ zJ.out) | exact HB.out)⟩
           ·rw [if_neg c21] at H
            exact absurd H (by simp)
          ·rw [if_neg c19] at H
           exact absurd H (by simp)
         ·replace c18 := Bool.eq_false_iff.mpr c18
          subst c18
          rw [if_neg (show ¬ (false = true) by decide)] at H
          by_cases c29 : (rdOf ByteArray.empty l0 0).toList = ([115, 101, 116] : List UInt8)
          ·rw [if_pos c29] at H
           have c29b0 : ((rdOf ByteArray.empty l0 0).toList == ([115, 101, 116] : List UInt8)) = true := beq_iff_eq.mpr c29
           have c29b1 : ((rdOf ByteArray.empty l0 0).toList != ([115, 101, 116] : List UInt8)) = false := bne_eq_false_iff_eq.mpr c29
           clear c29
           by_cases c30 : 2 < (l0.length : Int)
           ·rw [if_pos c30] at H
            have c30b0 : decide (2 < (l0.length : Int)) = true := decide_eq_true c30
            have c30b1 : decide (2 < l0.length) = true := decide_eq_true (by omega)
            clear c30
            replace H := Option.bind_eq_some_iff.mp H
            obtain ⟨t263, A310, H⟩ := H
            try dsimp only at H
            have A31 := Aside0.mk A310
            clear A310
            by_cases c32 : 3 < (l0.length : Int)
            ·rw [if_pos c32] at H
             have c32b0 : decide (3 < (l0.length : Int)) = true := decide_eq_true c32
             have c32b1 : decide (3 < l0.length) = true := decide_eq_true (by omega)
             clear c32
             replace H := Option.bind_eq_some_iff.mp H
             obtain ⟨⟨t265, t266⟩, A330, H⟩ := H
             try dsimp only at H
             have A33 := Aside0.mk A330
             clear A330
             simp only [Option.some.injEq, Prod.mk.injEq] at H
             obtain ⟨rfl, rfl, rfl, rfl, rfl, rfl⟩ := H
             have p262 : 0 ≤ (2 : Int) := (by omega)
             have q262 : 2 < (l0.length : Int) := of_decide_eq_true (by with_reducible assumption)
             obtain ⟨ad262, e262, hx262_0⟩ := Kd.at_string HR0.out 2 p262 q262
             obtain rfl : ad253 = ad262 := (by injection e262)
             (try simp only [show (2 : Int).toNat = 2 from rfl, Nat.reduceMul, Nat.reduceEqDiff, Go.Addr.add, ↓reduceIte] at hx262_0)
             have qi262 : (2 < l0.length) = True := eq_true (by omega)
             (try rw [show ((2 : Int)).toNat = 2 from rfl] at hx262_0)
             replace hx262_0 := zk HB.out hx262_0
             replace p262 := eq_true p262
             replace q262 := eq_true q262
             go_wp2_with (first | ((with_reducible refine zo (f := 161) rfl ?_); refine zy (some 48) rfl rfl Tryd.func161 (by kernel_rfl) rfl #[.string (rdOf ByteArray.empty l0 2)] rfl (by (try simp only [List.map_toArray, List.map_cons, List.map_nil]); first | done | rfl) ?_; (with_reducible refine (impl_data.calls (rdOf ByteArray.empty l0 2) t263 _ A31.out).mono ?_); rintro e w' ⟨rfl, ⟨nd, rfl⟩⟩; refine ⟨_, rfl, ?_⟩; (try (rw [drewN_self wc]; generalize hq_ : World.drewN wc _ = wc; have n0_ : Aside0 (wc.heap[zG]? = some (.cells #[.int .i64 0, .string (⟨#[]⟩ : ByteArray), .string (⟨#[]⟩ : ByteArray), .int .i64 0, .bool false] 124 (0, 0))) := ⟨by rw [← hq_]; exact (BL zD.out)⟩; have n1_ : Aside0 (wc.heap[zE]? = some (.cells #[.int .i64 0, .string (rdOf ByteArray.empty l0 1), .string (⟨#[]⟩ : ByteArray), .int .i64 0, .bool false] 124 (0, 0))) := ⟨by rw [← hq_]; exact (BL zC.out)⟩; have n2_ : Aside0 (Below w.heap.size w wc) := ⟨by rw [← hq_]; exact (by repeat (first | (with_reducible first | exact HB.out | apply zh | apply zd | apply zi | refine zl ?_ zH.out | refine zl ?_ zJ.out) | exact HB.out))⟩; clear zD zC HB hq_; have zD := n0_; have zC := n1_; have HB := n2_; clear n0_ n1_ n2_)); have zId := zI.out; have zJd := zF.out; have zyb : wc.cell? ⟨zE, 0, none⟩ = some (.int .i64 0) := (zc zC.out 0).trans rfl; have zzb : wc.cell? ⟨zE, 1, none⟩ = some (.string (rdOf ByteArray.empty l0 1)) := (zc zC.out 1).trans rfl; have zAb : wc.cell? ⟨zE, 2, none⟩ = some (.string (⟨#[]⟩ : ByteArray)) := (zc zC.out 2).trans rfl; have zBb : wc.cell? ⟨zE, 3, none⟩ = some (.int .i64 0) := (zc zC.out 3).trans rfl; have zCb : wc.cell? ⟨zE, 4, none⟩ = some (.bool false) := (zc zC.out 4).trans rfl; have zDb := zb zC.out 0; have zEb := zb zC.out 1; have zFb := zb zC.out 2; have zGb := zb zC.out 3; have zHb := zb zC.out 4; have p264 : 0 ≤ (3 : Int) := (by omega); have q264 : 3 < (l0.length : Int) := of_decide_eq_true (by with_reducible assumption); obtain ⟨ad264, e264, hx264_0⟩ := Kd.at_string HR0.out 3 p264 q264; obtain rfl : ad253 = ad264 := (by injection e264); (try simp only [show (3 : Int).toNat = 3 from rfl, Nat.reduceMul, Nat.reduceEqDiff, Go.Addr.add, ↓reduceIte] at hx264_0); have qi264 : (3 < l0.length) = True := eq_true (by omega); (try rw [show ((3 : Int)).toNat = 3 from rfl] at hx264_0); have hn264_0 : ad253.block ≠ zE := Nat.ne_of_lt (Nat.lt_of_lt_of_le (by have := World.block_lt_of_cell? _ _ hx264_0; first | rwa [zg] at this | exact this) GW257.out); have hn264_1 : ad253.block ≠ zE := Nat.ne_of_lt (Nat.lt_of_lt_of_le (by have := World.block_lt_of_cell? _ _ hx264_0; first | rwa [zg] at this | exact this) GW257.out); replace hx264_0 := zk HB.out hx264_0; replace hx264_0 := (zw (p := ⟨zE, 0, none⟩) (by first | (rw [zg]; exact hn264_0) | (show (Addr.add _ _).block ≠ _; rw [zg]; exact hn264_0) | exact hn264_0) (.int .i64 3)).trans hx264_0; replace hx264_0 := (zw (p := ⟨zE, 2, none⟩) (by first | (rw [zg]; exact hn264_1) | (show (Addr.add _ _).block ≠ _; rw [zg]; exact hn264_1) | exact hn264_1) (.string t263)).trans hx264_0; clear hn264_0; clear hn264_1; replace p264 := eq_true p264; replace q264 := eq_true q264) | ((with_reducible refine zo (f := 162) rfl ?_); refine zy (some 55) rfl rfl Tryd.func162 (by kernel_rfl) rfl #[.string (rdOf ByteArray.empty l0 3)] rfl (by (try simp only [List.map_toArray, List.map_cons, List.map_nil]); first | done | rfl) ?_; (with_reducible refine (impl_number.calls kj12 (rdOf ByteArray.empty l0 3) t265 t266 _ A33.out).mono ?_); rintro e w36 ⟨rfl, hb⟩; refine ⟨_, rfl, ?_⟩; have n0_ := Aside0.mk (zp (g := zG) (o := .cells #[.int .i64 0, .string (⟨#[]⟩ : ByteArray), .string (⟨#[]⟩ : ByteArray), .int .i64 0, .bool false] 124 (0, 0)) (by (with_reducible repeat (first | refine zf ?_ _ | refine zj ?_ | refine ze ?_ _)); refine zq ?_ zF.out _; (with_reducible repeat (first | refine zf ?_ _ | refine zj ?_ | refine ze ?_ _)); refine zq ?_ zF.out _; (with_reducible repeat (first | refine zf ?_ _ | refine zj ?_ | refine ze ?_ _)); exact zD.out) hb); have n1_ := Aside0.mk (zp (g := zE) (o := .cells #[.int .i64 3, .string (rdOf ByteArray.empty l0 1), .string t263, .int .i64 0, .bool false] 124 (0, 0)) (bfin (by (repeat (first | (with_reducible first | refine zf ?_ _ | refine zj ?_ | refine ze ?_ _) | apply zA)); exact zC.out) (by rfl)) hb); have n2_ := Aside0.mk (zm (by repeat (first | (with_reducible first | exact HB.out | apply zh | apply zd | apply zi | refine zl ?_ zH.out | refine zl ?_ zJ.out) | exact HB.out)) hb); clear zD; clear zC; clear HB; have zD := n0_; have zC := n1_; have HB := n2_; clear n0_ n1_ n2_; (try clear hb); (try clear hb2); (try clear hk); (try clear hi); have zIb : w36.cell? ⟨zE, 0, none⟩ = some (.int .i64 3) := (zc zC.out 0).trans rfl; have zJb : w36.cell? ⟨zE, 1, none⟩ = some (.string (rdOf ByteArray.empty l0 1)) := (zc zC.out 1).trans rfl; have zKb : w36.cell? ⟨zE, 2, none⟩ = some (.string t263) := (zc zC.out 2).trans rfl; have zLb : w36.cell? ⟨zE, 3, none⟩ = some (.int .i64 0) := (zc zC.out 3).trans rfl; have zMb : w36.cell? ⟨zE, 4, none⟩ = some (.bool false) := (zc zC.out 4).trans rfl; have zNb := zb zC.out 0; have zOb := zb zC.out 1; have zPb := zb zC.out 2; have zQb := zb zC.out 3; have zRb := zb zC.out 4; have zSb : w36.cell? ⟨zG, 0, none⟩ = some (.int .i64 0) := (zc zD.out 0).trans rfl; have zTb : w36.cell? ⟨zG, 1, none⟩ = some (.string (⟨#[]⟩ : ByteArray)) := (zc zD.out 1).trans rfl; have zUb : w36.cell? ⟨zG, 2, none⟩ = some (.string (⟨#[]⟩ : ByteArray)) := (zc zD.out 2).trans rfl; have zVb : w36.cell? ⟨zG, 3, none⟩ = some (.int .i64 0) := (zc zD.out 3).trans rfl; have zWb : w36.cell? ⟨zG, 4, none⟩ = some (.bool false) := (zc zD.out 4).trans rfl; have zXb := zb zD.out 0; have zYb := zb zD.out 1; have zZb := zb zD.out 2; have zac := zb zD.out 3; have zbc := zb zD.out 4))
             refine bodyPost_ret (results_ct rfl _ _ zG 124 #[.int .i64 3, .string (rdOf ByteArray.empty l0 1), .string t263, .int .i64 t265, .bool false] (0, 0) _ rfl (by (with_reducible repeat (first | refine zf ?_ _ | refine zj ?_ | refine ze ?_ _)); refine zx (cs := #[.int .i64 3, .string (rdOf ByteArray.empty l0 1), .string t263, .int .i64 t265, .bool false]) ?_ 4 _ rfl; (with_reducible repeat (first | refine zf ?_ _ | refine zj ?_ | refine ze ?_ _)); refine zx (cs := #[.int .i64 3, .string (rdOf ByteArray.empty l0 1), .string t263, .int .i64 0, .bool false]) ?_ 3 _ rfl; (with_reducible repeat (first | refine zf ?_ _ | refine zj ?_ | refine ze ?_ _)); refine zx (cs := #[.int .i64 3, .string (rdOf ByteArray.empty l0 1), .string (⟨#[]⟩ : ByteArray), .int .i64 0, .bool false]) ?_ 2 _ rfl; (with_reducible repeat (first | refine zf ?_ _ | refine zj ?_ | refine ze ?_ _)); refine zx (cs := #[.int .i64 3, .string (⟨#[]⟩ : ByteArray), .string (⟨#[]⟩ : ByteArray), .int .i64 0, .bool false]) ?_ 1 _ rfl; (with_reducible repeat (first | refine zf ?_ _ | refine zj ?_ | refine ze ?_ _)); refine zx (cs := #[.int .i64 0, .string (⟨#[]⟩ : ByteArray), .string (⟨#[]⟩ : ByteArray), .int .i64 0, .bool false]) ?_ 0 _ rfl; (with_reducible repeat (first | refine zf ?_ _ | refine zj ?_ | refine ze ?_ _)); refine zq ?_ zF.out _; (with_reducible repeat (first | refine zf ?_ _ | refine zj ?_ | refine ze ?_ _)); exact zD.out) Tryd.underlying124 rfl (by kernel_rfl)) rfl ?_
             exact ⟨by first | rfl | (simp [*] <;> rfl), by repeat (first | (with_reducible first | exact HB.out | apply zh | apply zd | apply zi | refine zl ?_ zH.out | refine zl ?_ zJ.out) | exact HB.out)⟩
            ·rw [if_neg c32] at H
             exact absurd H (by simp)
           ·rw [if_neg c30] at H
            exact absurd H (by simp)
          ·rw [if_neg c29] at H
           have c29b0 : ((rdOf ByteArray.empty l0 0).toList == ([115, 101, 116] : List UInt8)) = false := beq_eq_false_iff_ne.mpr c29
           have c29b1 : ((rdOf ByteArray.empty l0 0).toList != ([115, 101, 116] : List UInt8)) = true := bne_iff_ne.mpr c29
           by_cases c39 : (rdOf ByteArray.empty l0 0).toList = ([100, 101, 108, 101, 116, 101] : List UInt8)
           ·rw [if_pos c39] at H
            have c39b0 : ((rdOf ByteArray.empty l0 0).toList == ([100, 101, 108, 101, 116, 101] : List UInt8)) = true := beq_iff_eq.mpr c39
            have c39b1 : ((rdOf ByteArray.empty l0 0).toList != ([100, 101, 108, 101, 116, 101] : List UInt8)) = false := bne_eq_false_iff_eq.mpr c39
            clear c39
            by_cases c40 : 2 < (l0.length : Int)
            ·rw [if_pos c40] at H
             have c40b0 : decide (2 < (l0.length : Int)) = true := decide_eq_true c40
             have c40b1 : decide (2 < l0.length) = true := decide_eq_true (by omega)
             clear c40
             replace H := Option.bind_eq_some_iff.mp H
             obtain ⟨⟨t268, t269⟩, A410, H⟩ := H
             try dsimp only at H
             have A41 := Aside0.mk A410
             clear A410
             simp only [Option.some.injEq, Prod.mk.injEq] at H
             obtain ⟨rfl, rfl, rfl, rfl, rfl, rfl⟩ := H
             have zKd := zI.out
             have zLd := zF.out
             have zcc : wc.cell? ⟨zE, 0, none⟩ = some (.int .i64 0) := (zc zC.out 0).trans rfl
             have zdc : wc.cell? ⟨zE, 1, none⟩ = some (.string (rdOf ByteArray.empty l0 1)) := (zc zC.out 1).trans rfl
             have zec : wc.cell? ⟨zE, 2, none⟩ = some (.string (⟨#[]⟩ : ByteArray)) := (zc zC.out 2).trans rfl
             have zfc : wc.cell? ⟨zE, 3, none⟩ = some (.int .i64 0) := (zc zC.out 3).trans rfl
             have zgc : wc.cell? ⟨zE, 4, none⟩ = some (.bool false) := (zc zC.out 4).trans rfl
             have zhc := zb zC.out 0
             have zic := zb zC.out 1
             have zjc := zb zC.out 2
             have zkc := zb zC.out 3
             have zlc := zb zC.out 4
             have p267 : 0 ≤ (2 : Int) := (by omega)
             have q267 : 2 < (l0.length : Int) := of_decide_eq_true (by with_reducible assumption)
             obtain ⟨ad267, e267, hx267_0⟩ := Kd.at_string HR0.out 2 p267 q267
             obtain rfl : ad253 = ad267 := (by injection e267)
             (try simp only [show (2 : Int).toNat = 2 from rfl, Nat.reduceMul, Nat.reduceEqDiff, Go.Addr.add, ↓reduceIte] at hx267_0)
             have qi267 : (2 < l0.length) = True := eq_true (by omega)
             (try rw [show ((2 : Int)).toNat = 2 from rfl] at hx267_0)
             have hn267_0 : ad253.block ≠ zE := Nat.ne_of_lt (Nat.lt_of_lt_of_le (by have := World.block_lt_of_cell? _ _ hx267_0; first | rwa [zg] at this | exact this) GW257.out)
             replace hx267_0 := zk HB.out hx267_0
             replace hx267_0 := (zw (p := ⟨zE, 0, none⟩) (by first | (rw [zg]; exact hn267_0) | (show (Addr.add _ _).block ≠ _; rw [zg]; exact hn267_0) | exact hn267_0) (.int .i64 2)).trans hx267_0
             clear hn267_0
             replace p267 := eq_true p267
             replace q267 := eq_true q267
             go_wp2_with (first | ((with_reducible refine zo (f := 162) rfl ?_); refine zy (some 66) rfl rfl Tryd.func162 (by kernel_rfl) rfl #[.string (rdOf ByteArray.empty l0 2)] rfl (by (try simp only [List.map_toArray, List.map_cons, List.map_nil]); first | done | rfl) ?_; (with_reducible refine (impl_number.calls kj12 (rdOf ByteArray.empty l0 2) t268 t269 _ A41.out).mono ?_); rintro e w44 ⟨rfl, hb⟩; refine ⟨_, rfl, ?_⟩; have n0_ := Aside0.mk (zp (g := zG) (o := .cells #[.int .i64 0, .string (⟨#[]⟩ : ByteArray), .string (⟨#[]⟩ : ByteArray), .int .i64 0, .bool false] 124 (0, 0)) (by (with_reducible repeat (first | refine zf ?_ _ | refine zj ?_ | refine ze ?_ _)); refine zq ?_ zF.out _; (with_reducible repeat (first | refine zf ?_ _ | refine zj ?_ | refine ze ?_ _)); exact zD.out) hb); have n1_ := Aside0.mk (zp (g := zE) (o := .cells #[.int .i64 2, .string (rdOf ByteArray.empty l0 1), .string (⟨#[]⟩ : ByteArray), .int .i64 0, .bool false] 124 (0, 0)) (by (with_reducible repeat (first | refine zf ?_ _ | refine zj ?_ | refine ze ?_ _)); refine zx (cs := #[.int .i64 0, .string (rdOf ByteArray.empty l0 1), .string (⟨#[]⟩ : ByteArray), .int .i64 0, .bool false]) ?_ 0 _ rfl; (with_reducible repeat (first | refine zf ?_ _ | refine zj ?_ | refine ze ?_ _)); exact zC.out) hb); have n2_ := Aside0.mk (zm (by repeat (first | (with_reducible first | exact HB.out | apply zh | apply zd | apply zi | refine zl ?_ zH.out | refine zl ?_ zJ.out) | exact HB.out)) hb); clear zD; clear zC; clear HB; have zD := n0_; have zC := n1_; have HB := n2_; clear n0_ n1_ n2_; (try clear hb); (try clear hb2); (try clear hk); (try clear hi); have zmc : w44.cell? ⟨zE, 0, none⟩ = some (.int .i64 2) := (zc zC.out 0).trans rfl; have znc : w44.cell? ⟨zE, 1, none⟩ = some (.string (rdOf ByteArray.empty l0 1)) := (zc zC.out 1).trans rfl; have zoc : w44.cell? ⟨zE, 2, none⟩ = some (.string (⟨#[]⟩ : ByteArray)) := (zc zC.out 2).trans rfl; have zpc : w44.cell? ⟨zE, 3, none⟩ = some (.int .i64 0) := (zc zC.out 3).trans rfl; have zqc : w44.cell? ⟨zE, 4, none⟩ = some (.bool false) := (zc zC.out 4).trans rfl; have zrc := zb zC.out 0; have zsc := zb zC.out 1; have ztc := zb zC.out 2; have zuc := zb zC.out 3; have zvc := zb zC.out 4; have zwc : w44.cell? ⟨zG, 0, none⟩ = some (.int .i64 0) := (zc zD.out 0).trans rfl; have zxc : w44.cell? ⟨zG, 1, none⟩ = some (.string (⟨#[]⟩ : ByteArray)) := (zc zD.out 1).trans rfl; have zyc : w44.cell? ⟨zG, 2, none⟩ = some (.string (⟨#[]⟩ : ByteArray)) := (zc zD.out 2).trans rfl; have zzc : w44.cell? ⟨zG, 3, none⟩ = some (.int .i64 0) := (zc zD.out 3).trans rfl; have zAc : w44.cell? ⟨zG, 4, none⟩ = some (.bool false) := (zc zD.out 4).trans rfl; have zBc := zb zD.out 0; have zCc := zb zD.out 1; have zDc := zb zD.out 2; have zEc := zb zD.out 3; have zFc := zb zD.out 4))
             refine bodyPost_ret (results_ct rfl _ _ zG 124 #[.int .i64 2, .string (rdOf ByteArray.empty l0 1), .string (⟨#[]⟩ : ByteArray), .int .i64 t268, .bool false] (0, 0) _ rfl (by (with_reducible repeat (first | refine zf ?_ _ | refine zj ?_ | refine ze ?_ _)); refine zx (cs := #[.int .i64 2, .string (rdOf ByteArray.empty l0 1), .string (⟨#[]⟩ : ByteArray), .int .i64 t268, .bool false]) ?_ 4 _ rfl; (with_reducible repeat (first | refine zf ?_ _ | refine zj ?_ | refine ze ?_ _)); refine zx (cs := #[.int .i64 2, .string (rdOf ByteArray.empty l0 1), .string (⟨#[]⟩ : ByteArray), .int .i64 0, .bool false]) ?_ 3 _ rfl; (with_reducible repeat (first | refine zf ?_ _ | refine zj ?_ | refine ze ?_ _)); refine zx (cs := #[.int .i64 2, .string (rdOf ByteArray.empty l0 1), .string (⟨#[]⟩ : ByteArray), .int .i64 0, .bool false]) ?_ 2 _ rfl; (with_reducible repeat (first | refine zf ?_ _ | refine zj ?_ | refine ze ?_ _)); refine zx (cs := #[.int .i64 2, .string (⟨#[]⟩ : ByteArray), .string (⟨#[]⟩ : ByteArray), .int .i64 0, .bool false]) ?_ 1 _ rfl; (with_reducible repeat (first | refine zf ?_ _ | refine zj ?_ | refine ze ?_ _)); refine zx (cs := #[.int .i64 0, .string (⟨#[]⟩ : ByteArray), .string (⟨#[]⟩ : ByteArray), .int .i64 0, .bool false]) ?_ 0 _ rfl; (with_reducible repeat (first | refine zf ?_ _ | refine zj ?_ | refine ze ?_ _)); refine zq ?_ zF.out _; (with_reducible repeat (first | refine zf ?_ _ | refine zj ?_ | refine ze ?_ _)); exact zD.out) Tryd.underlying124 rfl (by kernel_rfl)) rfl ?_
             exact ⟨by first | rfl | (simp [*] <;> rfl), by repeat (first | (with_reducible first | exact HB.out | apply zh | apply zd | apply zi | refine zl ?_ zH.out | refine zl ?_ zJ.out) | exact HB.out)⟩
            ·rw [if_neg c40] at H
             exact absurd H (by simp)
           ·rw [if_neg c39] at H
            have c39b0 : ((rdOf ByteArray.empty l0 0).toList == ([100, 101, 108, 101, 116, 101] : List UInt8)) = false := beq_eq_false_iff_ne.mpr c39
            have c39b1 : ((rdOf ByteArray.empty l0 0).toList != ([100, 101, 108, 101, 116, 101] : List UInt8)) = true := bne_iff_ne.mpr c39
            by_cases c47 : (rdOf ByteArray.empty l0 0).toList = ([99, 104, 101, 99, 107] : List UInt8)
            ·rw [if_pos c47] at H
             have c47b0 : ((rdOf ByteArray.empty l0 0).toList == ([99, 104, 101, 99, 107] : List UInt8)) = true := beq_iff_eq.mpr c47
             have c47b1 : ((rdOf ByteArray.empty l0 0).toList != ([99, 104, 101, 99, 107] : List UInt8)) = false := bne_eq_false_iff_eq.mpr c47
             clear c47
             by_cases c48 : 2 < (l0.length : Int)
             ·rw [if_pos c48] at H
              have c48b0 : decide (2 < (l0.length : Int)) = true := decide_eq_true c48
              have c48b1 : decide (2 < l0.length) = true := decide_eq_true (by omega)
              clear c48
              replace H := Option.bind_eq_some_iff.mp H
              obtain ⟨⟨t271, t272⟩, A490, H⟩ := H
              try dsimp only at H
              have A49 := Aside0.mk A490
              clear A490
              simp only [Option.some.injEq, Prod.mk.injEq] at H
              obtain ⟨rfl, rfl, rfl, rfl, rfl, rfl⟩ := H
              have zMd := zI.out
              have zNd := zF.out
              have zGc : wc.cell? ⟨zE, 0, none⟩ = some (.int .i64 0) := (zc zC.out 0).trans rfl
              have zHc : wc.cell? ⟨zE, 1, none⟩ = some (.string (rdOf ByteArray.empty l0 1)) := (zc zC.out 1).trans rfl
              have zIc : wc.cell? ⟨zE, 2, none⟩ = some (.string (⟨#[]⟩ : ByteArray)) := (zc zC.out 2).trans rfl
              have zJc : wc.cell? ⟨zE, 3, none⟩ = some (.int .i64 0) := (zc zC.out 3).trans rfl
              have zKc : wc.cell? ⟨zE, 4, none⟩ = some (.bool false) := (zc zC.out 4).trans rfl
              have zLc := zb zC.out 0
              have zMc := zb zC.out 1
              have zNc := zb zC.out 2
              have zOc := zb zC.out 3
              have zPc := zb zC.out 4
              have p270 : 0 ≤ (2 : Int) := (by omega)
              have q270 : 2 < (l0.length : Int) := of_decide_eq_true (by with_reducible assumption)
              obtain ⟨ad270, e270, hx270_0⟩ := Kd.at_string HR0.out 2 p270 q270
              obtain rfl : ad253 = ad270 := (by injection e270)
              (try simp only [show (2 : Int).toNat = 2 from rfl, Nat.reduceMul, Nat.reduceEqDiff, Go.Addr.add, ↓reduceIte] at hx270_0)
              have qi270 : (2 < l0.length) = True := eq_true (by omega)
              (try rw [show ((2 : Int)).toNat = 2 from rfl] at hx270_0)
              have hn270_0 : ad253.block ≠ zE := Nat.ne_of_lt (Nat.lt_of_lt_of_le (by have := World.block_lt_of_cell? _ _ hx270_0; first | rwa [zg] at this | exact this) GW257.out)
              replace hx270_0 := zk HB.out hx270_0
              replace hx270_0 := (zw (p := ⟨zE, 0, none⟩) (by first | (rw [zg]; exact hn270_0) | (show (Addr.add _ _).block ≠ _; rw [zg]; exact hn270_0) | exact hn270_0) (.int .i64 4)).trans hx270_0
              clear hn270_0
              replace p270 := eq_true p270
              replace q270 := eq_true q270
              go_wp2_with (first | ((with_reducible refine zo (f := 162) rfl ?_); refine zy (some 77) rfl rfl Tryd.func162 (by kernel_rfl) rfl #[.string (rdOf ByteArray.empty l0 2)] rfl (by (try simp only [List.map_toArray, List.map_cons, List.map_nil]); first | done | rfl) ?_; (with_reducible refine (impl_number.calls kj12 (rdOf ByteArray.empty l0 2) t271 t272 _ A49.out).mono ?_); rintro e w52 ⟨rfl, hb⟩; refine ⟨_, rfl, ?_⟩; have n0_ := Aside0.mk (zp (g := zG) (o := .cells #[.int .i64 0, .string (⟨#[]⟩ : ByteArray), .string (⟨#[]⟩ : ByteArray), .int .i64 0, .bool false] 124 (0, 0)) (by (with_reducible repeat (first | refine zf ?_ _ | refine zj ?_ | refine ze ?_ _)); refine zq ?_ zF.out _; (with_reducible repeat (first | refine zf ?_ _ | refine zj ?_ | refine ze ?_ _)); exact zD.out) hb); have n1_ := Aside0.mk (zp (g := zE) (o := .cells #[.int .i64 4, .string (rdOf ByteArray.empty l0 1), .string (⟨#[]⟩ : ByteArray), .int .i64 0, .bool false] 124 (0, 0)) (by (with_reducible repeat (first | refine zf ?_ _ | refine zj ?_ | refine ze ?_ _)); refine zx (cs := #[.int .i64 0, .string (rdOf ByteArray.empty l0 1), .string (⟨#[]⟩ : ByteArray), .int .i64 0, .bool false]) ?_ 0 _ rfl; (with_reducible repeat (first | refine zf ?_ _ | refine zj ?_ | refine ze ?_ _)); exact zC.out) hb); have n2_ := Aside0.mk (zm (by repeat (first | (with_reducible first | exact HB.out | apply zh | apply zd | apply zi | refine zl ?_ zH.out | refine zl ?_ zJ.out) | exact HB.out)) hb); clear zD; clear zC; clear HB; have zD := n0_; have zC := n1_; have HB := n2_; clear n0_ n1_ n2_; (try clear hb); (try clear hb2); (try clear hk); (try clear hi); have zQc : w52.cell? ⟨zE, 0, none⟩ = some (.int .i64 4) := (zc zC.out 0).trans rfl; have zRc : w52.cell? ⟨zE, 1, none⟩ = some (.string (rdOf ByteArray.empty l0 1)) := (zc zC.out 1).trans rfl; have zSc : w52.cell? ⟨zE, 2, none⟩ = some (.string (⟨#[]⟩ : ByteArray)) := (zc zC.out 2).trans rfl; have zTc : w52.cell? ⟨zE, 3, none⟩ = some (.int .i64 0) := (zc zC.out 3).trans rfl; have zUc : w52.cell? ⟨zE, 4, none⟩ = some (.bool false) := (zc zC.out 4).trans rfl; have zVc := zb zC.out 0; have zWc := zb zC.out 1; have zXc := zb zC.out 2; have zYc := zb zC.out 3; have zZc := zb zC.out 4; have zad : w52.cell? ⟨zG, 0, none⟩ = some (.int .i64 0) := (zc zD.out 0).trans rfl; have zbd : w52.cell? ⟨zG, 1, none⟩ = some (.string (⟨#[]⟩ : ByteArray)) := (zc zD.out 1).trans rfl; have zcd : w52.cell? ⟨zG, 2, none⟩ = some (.string (⟨#[]⟩ : ByteArray)) := (zc zD.out 2).trans rfl; have zdd : w52.cell? ⟨zG, 3, none⟩ = some (.int .i64 0) := (zc zD.out 3).trans rfl; have zed : w52.cell? ⟨zG, 4, none⟩ = some (.bool false) := (zc zD.out 4).trans rfl; have zfd := zb zD.out 0; have zgd := zb zD.out 1; have zhd := zb zD.out 2; have zid := zb zD.out 3; have zjd := zb zD.out 4))
              refine bodyPost_ret (results_ct rfl _ _ zG 124 #[.int .i64 4, .string (rdOf ByteArray.empty l0 1), .string (⟨#[]⟩ : ByteArray), .int .i64 t271, .bool false] (0, 0) _ rfl (by (with_reducible repeat (first | refine zf ?_ _ | refine zj ?_ | refine ze ?_ _)); refine zx (cs := #[.int .i64 4, .string (rdOf ByteArray.empty l0 1), .string (⟨#[]⟩ : ByteArray), .int .i64 t271, .bool false]) ?_ 4 _ rfl; (with_reducible repeat (first | refine zf ?_ _ | refine zj ?_ | refine ze ?_ _)); refine zx (cs := #[.int .i64 4, .string (rdOf ByteArray.empty l0 1), .string (⟨#[]⟩ : ByteArray), .int .i64 0, .bool false]) ?_ 3 _ rfl; (with_reducible repeat (first | refine zf ?_ _ | refine zj ?_ | refine ze ?_ _)); refine zx (cs := #[.int .i64 4, .string (rdOf ByteArray.empty l0 1), .string (⟨#[]⟩ : ByteArray), .int .i64 0, .bool false]) ?_ 2 _ rfl; (with_reducible repeat (first | refine zf ?_ _ | refine zj ?_ | refine ze ?_ _)); refine zx (cs := #[.int .i64 4, .string (⟨#[]⟩ : ByteArray), .string (⟨#[]⟩ : ByteArray), .int .i64 0, .bool false]) ?_ 1 _ rfl; (with_reducible repeat (first | refine zf ?_ _ | refine zj ?_ | refine ze ?_ _)); refine zx (cs := #[.int .i64 0, .string (⟨#[]⟩ : ByteArray), .string (⟨#[]⟩ : ByteArray), .int .i64 0, .bool false]) ?_ 0 _ rfl; (with_reducible repeat (first | refine zf ?_ _ | refine zj ?_ | refine ze ?_ _)); refine zq ?_ zF.out _; (with_reducible repeat (first | refine zf ?_ _ | refine zj ?_ | refine ze ?_ _)); exact zD.out) Tryd.underlying124 rfl (by kernel_rfl)) rfl ?_
              exact ⟨by first | rfl | (simp [*] <;> rfl), by repeat (first | (with_reducible first | exact HB.out | apply zh | apply zd | apply zi | refine zl ?_ zH.out | refine zl ?_ zJ.out) | exact HB.out)⟩
             ·rw [if_neg c48] at H
              exact absurd H (by simp)
            ·rw [if_neg c47] at H
             have c47b0 : ((rdOf ByteArray.empty l0 0).toList == ([99, 104, 101, 99, 107] : List UInt8)) = false := beq_eq_false_iff_ne.mpr c47
             have c47b1 : ((rdOf ByteArray.empty l0 0).toList != ([99, 104, 101, 99, 107] : List UInt8)) = true := bne_iff_ne.mpr c47
             simp only [Option.some.injEq, Prod.mk.injEq] at H
             obtain ⟨rfl, rfl, rfl, rfl, rfl, rfl⟩ := H
             have zOd := zI.out
             have zPd := zF.out
             have zkd : wc.cell? ⟨zE, 0, none⟩ = some (.int .i64 0) := (zc zC.out 0).trans rfl
             have zld : wc.cell? ⟨zE, 1, none⟩ = some (.string (rdOf ByteArray.empty l0 1)) := (zc zC.out 1).trans rfl
             have zmd : wc.cell? ⟨zE, 2, none⟩ = some (.string (⟨#[]⟩ : ByteArray)) := (zc zC.out 2).trans rfl
             have znd : wc.cell? ⟨zE, 3, none⟩ = some (.int .i64 0) := (zc zC.out 3).trans rfl
             have zod : wc.cell? ⟨zE, 4, none⟩ = some (.bool false) := (zc zC.out 4).trans rfl
             have zpd := zb zC.out 0
             have zqd := zb zC.out 1
             have zrd := zb zC.out 2
             have zsd := zb zC.out 3
             have ztd := zb zC.out 4
             have zud : wc.cell? ⟨zG, 0, none⟩ = some (.int .i64 0) := (zc zD.out 0).trans rfl
             have zvd : wc.cell? ⟨zG, 1, none⟩ = some (.string (⟨#[]⟩ : ByteArray)) := (zc zD.out 1).trans rfl
             have zwd : wc.cell? ⟨zG, 2, none⟩ = some (.string (⟨#[]⟩ : ByteArray)) := (zc zD.out 2).trans rfl
             have zxd : wc.cell? ⟨zG, 3, none⟩ = some (.int .i64 0) := (zc zD.out 3).trans rfl
             have zyd : wc.cell? ⟨zG, 4, none⟩ = some (.bool false) := (zc zD.out 4).trans rfl
             have zzd := zb zD.out 0
             have zAd := zb zD.out 1
             have zBd := zb zD.out 2
             have zCd := zb zD.out 3
             have zDd := zb zD.out 4
             go_wp2
             refine bodyPost_ret (results_ct rfl _ _ zG 124 #[.int .i64 0, .string (rdOf ByteArray.empty l0 1), .string (⟨#[]⟩ : ByteArray), .int .i64 0, .bool false] (0, 0) _ rfl (bfin (by (repeat (first | (with_reducible first | refine zf ?_ _ | refine zj ?_ | refine ze ?_ _) | apply zA)); exact zD.out) (by rfl)) Tryd.underlying124 rfl (by kernel_rfl)) rfl ?_
             exact ⟨by first | rfl | (simp [*] <;> rfl), by repeat (first | (with_reducible first | exact HB.out | apply zh | apply zd | apply zi | refine zl ?_ zH.out | refine zl ?_ zJ.out) | exact HB.out)⟩
      ·rw [if_neg c12] at H
       exact absurd H (by simp)
     ·rw [if_neg c11] at H
      exact absurd H (by simp)
 ·rw [if_neg c2] at H
  exact absurd H (by simp)

def impl_single.f (k : Nat) (l0 : List ByteArray) : Option (Int × (List (S124)) × Bool × ByteArray × List Int × Bool) := (impl_operation.f k l0).bind fun bt274 => (some (1, (([(⟨bt274.1, bt274.2.1, bt274.2.2.1, bt274.2.2.2.1, bt274.2.2.2.2.1⟩ : S124)] : List (S124))), false, (⟨#[]⟩ : ByteArray), ([] : List Int), bt274.2.2.2.2.2))
theorem impl_single.mono : ∀ a0 k, LeO (impl_single.f k a0) (impl_single.f (k + 1) a0) := by
 intro a0 k
 unfold impl_single.f
 repeat' first
   | (with_reducible exact impl_operation.mono _ _)
   | (with_reducible exact LeO.refl _)
   | (with_reducible exact LeO.none _)
   | (with_reducible refine LeO.ite ?_ ?_)
   | (with_reducible refine LeO.bind ?_ (fun _ => ?_))
   | exact impl_operation.mono _ _
   | exact LeO.none _
   | refine LeO.ite ?_ ?_
   | refine LeO.bind ?_ (fun _ => ?_)
set_option maxHeartbeats 8000000 in
set_option maxRecDepth 100000 in
theorem impl_single.calls (k : Nat) (A0 : Option Addr) (c0 : Nat) (l0 : List ByteArray) (r1 : Int) (r2 : List (S124)) (r3 : Bool) (r4 : ByteArray) (r5 : List Int) (r6 : Bool) (w : World) (hr0 : Kd.C Kd.string w A0 l0.length l0) (hc0 : l0.length ≤ c0) (h : impl_single.f k l0 = some (r1, r2, r3, r4, r5, r6)) :
  Calls Tryd.prog 115 #[.slice A0 l0.length c0] w fun e w' => ∃ v1_ v4_ : Value, e = .returned (.tuple #[.agg #[.int .i64 r1, v1_, .bool r3, .string r4, v4_], .bool r6]) ∧ Kd.R k124 124 w' w.heap.size (fun _ => True) v1_ r2 ∧ Kd.R (Kd.int .i64) 2 w' w.heap.size (fun _ => True) v4_ r5 ∧ Below w.heap.size w w' := by
 have hu66 := Tryd.underlying66
 have hu124 := Tryd.underlying124
 have hu63 := Tryd.underlying63
 have HR0 := Aside0.mk hr0
 have HC0 := Aside0.mk hc0
 clear hr0 hc0
 have HB := Aside0.mk (Below.refl w.heap.size w)
 have H : ((impl_operation.f k l0).bind fun bt274 => (some (1, (([(⟨bt274.1, bt274.2.1, bt274.2.2.1, bt274.2.2.2.1, bt274.2.2.2.2.1⟩ : S124)] : List (S124))), false, (⟨#[]⟩ : ByteArray), ([] : List Int), bt274.2.2.2.2.2))) = some (r1, r2, r3, r4, r5, r6) := h
 clear h
 replace H := Option.bind_eq_some_iff.mp H
 obtain ⟨⟨t274, t275, t276, t277, t278, t279⟩, A20, H⟩ := H
 try dsimp only at H
 have A2 := Aside0.mk A20
 clear A20
 obtain ⟨y281, hy281⟩ : ∃ y_ : List (S124), y_ = (([(⟨t274, t275, t276, t277, t278⟩ : S124)] : List (S124))) := ⟨_, rfl⟩
 replace H : (some (1, y281, false, (⟨#[]⟩ : ByteArray), ([] : List Int), t279)) = some (r1, r2, r3, r4, r5, r6) := by first | (rw [hy281]; with_reducible exact H) | (have H2_ := (Option.bind_some _ _).symm.trans H; rw [hy281]; with_reducible exact H2_) | (have H2_ := (Option.bind_some _ _).symm.trans H; with_reducible exact H2_) | with_reducible exact H | (rw [hy281]; exact H) | exact H
 have Ny281 := Aside0.mk hy281
 clear hy281
 simp only [Option.some.injEq, Prod.mk.injEq] at H
 obtain ⟨rfl, rfl, rfl, rfl, rfl, rfl⟩ := H
 go_enter Tryd.func115, Tryd.ntmps115
 go_wp2_with (first | ((with_reducible refine zu (N := 2) rfl ?_); refine zz ?hg (N := 2) ?hd (cs := #[.int .i64 0, .slice none 0 0, .bool false, .string (⟨#[]⟩ : ByteArray), .slice none 0 0]) (t := 66) ?hr ?_; (case hd => rfl); (case hg => rfl); (case hr => first | (go_simp; done) | (go_simp; rfl)); intro zD hg w3 hbox hb; have n0_ := Aside0.mk (zm (by exact bl HB.out) hb); have n1_ := Aside0.mk (hbox); have n2_ := Aside0.mk ((by rw [hg]; exact (zn (by exact bl HB.out)) : w.heap.size ≤ zD)); have n3_ := Aside0.mk ((by rw [hg]; exact (zn (by exact bl HB.out)) : w.heap.size ≤ zD)); clear HB; have HB := n0_; have zC := n1_; have GW273 := n2_; have zH := n3_; clear n0_ n1_ n2_ n3_; clear hb hbox hg) | ((with_reducible refine zo (f := 139) rfl ?_); refine zy (some 8) rfl rfl Tryd.func139 (by kernel_rfl) rfl #[.slice A0 l0.length c0] rfl (by (try simp only [List.map_toArray, List.map_cons, List.map_nil]); first | done | rfl) ?_; (with_reducible refine (impl_operation.calls k _ _ l0 t274 t275 t276 t277 t278 t279 _ ?side1 ?side2 A2.out).mono ?_); (case side1 => repeat (first | exact (Kd.C_below HR0.out HB.out) | (with_reducible refine Kd.C_alloc ?_ _) | (with_reducible refine Kd.C_drewN ?_ _) | (with_reducible refine Kd.C_drew ?_))); (case side2 => exact HC0.out); rintro e w4 ⟨rfl, hb⟩; refine ⟨_, rfl, ?_⟩; have n0_ := Aside0.mk (zp (g := zD) (o := .cells #[.int .i64 0, .slice none 0 0, .bool false, .string (⟨#[]⟩ : ByteArray), .slice none 0 0] 66 (0, 0)) (BL zC.out) hb); have n1_ := Aside0.mk (zm (by exact bl HB.out) hb); clear zC; clear HB; have zC := n0_; have HB := n1_; clear n0_ n1_; (try clear hb); (try clear hb2); (try clear hk); (try clear hi)) | ((with_reducible refine zu (N := 4) rfl ?_); refine zz ?hg (N := 4) ?hd (cs := #[.int .i64 0, .string (⟨#[]⟩ : ByteArray), .string (⟨#[]⟩ : ByteArray), .int .i64 0, .bool false]) (t := 124) ?hr ?_; (case hd => rfl); (case hg => rfl); (case hr => first | (go_simp; done) | (go_simp; rfl)); intro zG hg w5 hbox hb; have n0_ := Aside0.mk (zp (g := zD) (o := .cells #[.int .i64 0, .slice none 0 0, .bool false, .string (⟨#[]⟩ : ByteArray), .slice none 0 0] 66 (0, 0)) (BL zC.out) hb); have n1_ := Aside0.mk (zm (by exact bl HB.out) hb); have n2_ := Aside0.mk (hbox); have n3_ := Aside0.mk ((by rw [hg]; exact (zn (by exact bl HB.out)) : w.heap.size ≤ zG)); have n4_ := Aside0.mk ((by rw [hg]; exact (zn (by exact bl HB.out)) : w.heap.size ≤ zG)); have n5_ := Aside0.mk ((by rw [hg]; exact Nat.ne_of_lt (zB (g := zD) (o := .cells #[.int .i64 0, .slice none 0 0, .bool false, .string (⟨#[]⟩ : ByteArray), .slice none 0 0] 66 (0, 0)) (BL zC.out)) : zD ≠ zG)); have n6_ := Aside0.mk ((by rw [hg]; exact Nat.ne_of_gt (zB (g := zD) (o := .cells #[.int .i64 0, .slice none 0 0, .bool false, .string (⟨#[]⟩ : ByteArray), .slice none 0 0] 66 (0, 0)) (BL zC.out)) : zG ≠ zD)); clear zC; clear HB; have zC := n0_; have HB := n1_; have zE := n2_; have GW280 := n3_; have zI := n4_; have zF := n5_; have zJ := n6_; clear n0_ n1_ n2_ n3_ n4_ n5_ n6_; clear hb hbox hg; have zgb := zJ.out; have zhb := zF.out; have zW : w5.cell? ⟨zG, 0, none⟩ = some (.int .i64 0) := (zc zE.out 0).trans rfl; have zX : w5.cell? ⟨zG, 1, none⟩ = some (.string (⟨#[]⟩ : ByteArray)) := (zc zE.out 1).trans rfl; have zY : w5.cell? ⟨zG, 2, none⟩ = some (.string (⟨#[]⟩ : ByteArray)) := (zc zE.out 2).trans rfl; have zZ : w5.cell? ⟨zG, 3, none⟩ = some (.int .i64 0) := (zc zE.out 3).trans rfl; have zab : w5.cell? ⟨zG, 4, none⟩ = some (.bool false) := (zc zE.out 4).trans rfl; have zbb := zb zE.out 0; have zcb := zb zE.out 1; have zdb := zb zE.out 2; have zeb := zb zE.out 3; have zfb := zb zE.out 4) | ((with_reducible refine zu (N := 12) rfl ?_); refine Kd.R_lit k124 _ 124 ?hg (N := 12) ?hd (xs := ([(⟨t274, t275, t276, t277, t278⟩ : S124)] : List (S124))) (inner := [.int .i64 t274, .string t275, .string t276, .int .i64 t277, .bool t278]) (ok := fun _ => True) (okp := fun _ => True) ?hr ?hp (fun _ hk => hk) trivial (Below.refl _ _) (Nat.le_refl _) (by simp) ?_; (case hd => rfl); (case hg => rfl); (case hr => first | (go_simp; done) | (go_simp; rfl)); (case hp => exact (Reps.c5 (show Kd.M k124 _ _ _ (⟨t274, t275, t276, t277, t278⟩ : S124) [.int .i64 t274, .string t275, .string t276, .int .i64 t277, .bool t278] from (k124_mkM _ _ _ (⟨t274, t275, t276, t277, t278⟩ : S124) )) (Reps.none _ _))); intro v282 w8 zK hb hg_ hnew_; clear hg_ hnew_; (first | rw [← Ny281.out] at zK | (simp only [Int.reduceToNat] at zK; rw [← Ny281.out] at zK)); have n0_ := Aside0.mk (Kd.R_lower (Kd.R_newB zK (g := zG) (o := .cells #[.int .i64 t274, .string t275, .string t276, .int .i64 t277, .bool t278] 124 (0, 0)) (bfin (by (repeat (first | (with_reducible first | refine zf ?_ _ | refine zj ?_ | refine ze ?_ _) | apply zA)); exact zE.out) (by rfl))) (zn (by repeat (first | (with_reducible first | exact HB.out | apply zh | apply zd | apply zi | refine zl ?_ zH.out | refine zl ?_ zI.out) | exact HB.out)))); have n1_ := Aside0.mk (zp (g := zD) (o := .cells #[.int .i64 0, .slice none 0 0, .bool false, .string (⟨#[]⟩ : ByteArray), .slice none 0 0] 66 (0, 0)) (by (with_reducible repeat (first | refine zf ?_ _ | refine zj ?_ | refine ze ?_ _)); refine zq ?_ zF.out _; (with_reducible repeat (first | refine zf ?_ _ | refine zj ?_ | refine ze ?_ _)); refine zq ?_ zF.out _; (with_reducible repeat (first | refine zf ?_ _ | refine zj ?_ | refine ze ?_ _)); refine zq ?_ zF.out _; (with_reducible repeat (first | refine zf ?_ _ | refine zj ?_ | refine ze ?_ _)); refine zq ?_ zF.out _; (with_reducible repeat (first | refine zf ?_ _ | refine zj ?_ | refine ze ?_ _)); refine zq ?_ zF.out _; (with_reducible repeat (first | refine zf ?_ _ | refine zj ?_ | refine ze ?_ _)); exact zC.out) hb); have n2_ := Aside0.mk (zp (g := zG) (o := .cells #[.int .i64 t274, .string t275, .string t276, .int .i64 t277, .bool t278] 124 (0, 0)) (bfin (by (repeat (first | (with_reducible first | refine zf ?_ _ | refine zj ?_ | refine ze ?_ _) | apply zA)); exact zE.out) (by rfl)) hb); have n3_ := Aside0.mk (zm (by repeat (first | (with_reducible first | exact HB.out | apply zh | apply zd | apply zi | refine zl ?_ zH.out | refine zl ?_ zI.out) | exact HB.out)) hb); clear zC; clear zE; clear HB; have zL := n0_; have zC := n1_; have zE := n2_; have HB := n3_; clear n0_ n1_ n2_ n3_; clear hb zK; obtain ⟨Ao10, co10, eo10⟩ := Kd.R_slice zL.out; subst eo10; have zM : w8.cell? ⟨zD, 0, none⟩ = some (.int .i64 0) := (zc zC.out 0).trans rfl; have zN : w8.cell? ⟨zD, 1, none⟩ = some (.slice none 0 0) := (zc zC.out 1).trans rfl; have zO : w8.cell? ⟨zD, 2, none⟩ = some (.bool false) := (zc zC.out 2).trans rfl; have zP : w8.cell? ⟨zD, 3, none⟩ = some (.string (⟨#[]⟩ : ByteArray)) := (zc zC.out 3).trans rfl; have zQ : w8.cell? ⟨zD, 4, none⟩ = some (.slice none 0 0) := (zc zC.out 4).trans rfl; have zR := zb zC.out 0; have zS := zb zC.out 1; have zT := zb zC.out 2; have zU := zb zC.out 3; have zV := zb zC.out 4))
 refine bodyPost_ret (results_ct rfl _ _ zD 66 #[.int .i64 1, .slice Ao10 y281.length co10, .bool false, .string (⟨#[]⟩ : ByteArray), .slice none 0 0] (0, 0) _ rfl (bfin (by (repeat (first | (with_reducible first | refine zf ?_ _ | refine zj ?_ | refine ze ?_ _) | apply zA)); exact zC.out) (by rfl)) Tryd.underlying66 rfl (by kernel_rfl)) rfl ?_
 exact ⟨_, _, by first | rfl | (simp [*] <;> rfl), RL (Kd.R_mono (Kd.R_far (p := ⟨zD, 4, none⟩) (Kd.R_far (p := ⟨zD, 3, none⟩) (Kd.R_far (p := ⟨zD, 2, none⟩) (Kd.R_far (p := ⟨zD, 1, none⟩) (Kd.R_far (p := ⟨zD, 0, none⟩) (Kd.R_types zL.out zC.out (by decide)) (fun _ hk => hk.2) (.int .i64 1)) (fun _ hk => hk.2) (.slice Ao10 y281.length co10)) (fun _ hk => hk.2) (.bool false)) (fun _ hk => hk.2) (.string (⟨#[]⟩ : ByteArray))) (fun _ hk => hk.2) (.slice none 0 0)) (fun _ hk => trivial)), by first | exact Kd.R_nil _ _ _ _ _ | exact Kd.N_nil _ _ _ _ _ | exact Kd.V_nil _ _ _ _ _ | exact Kd.Q_nil _ _ _ _ _ | exact Kd.S_nil _ _ _ _ _, by repeat (first | (with_reducible first | exact HB.out | apply zh | apply zd | apply zi | refine zl ?_ zH.out | refine zl ?_ zI.out) | exact HB.out)⟩

mutual
def impl_multi.l0 : Nat → List ByteArray → Int → Int → Int → List (S124) → Bool → ByteArray → Option (Int × (List (S124)) × Bool × ByteArray × List Int × Bool)
 | 0, _, _, _, _, _, _, _ => none
 | k + 1, x0, x5, x6, x286000, x286001, x286002, x286003 => if x6 ≤ (x0.length : Int) then (if x6 < (x0.length : Int) then (if 0 ≤ x6 then (impl_multi.j1 k x0 x5 x6 ((rdOf ByteArray.empty x0 x6).toList != ([59] : List UInt8)) x286000 x286001 x286002 x286003) else (none)) else (impl_multi.j1 k x0 x5 x6 false x286000 x286001 x286002 x286003)) else (some (x286000, x286001, x286002, x286003, ([] : List Int), decide ((x0.length : Int) > 1)))
def impl_multi.j1 : Nat → List ByteArray → Int → Int → Bool → Int → List (S124) → Bool → ByteArray → Option (Int × (List (S124)) × Bool × ByteArray × List Int × Bool)
 | 0, _, _, _, _, _, _, _, _ => none
 | k + 1, x0, x5, x6, x26, x286000, x286001, x286002, x286003 => if x26 = true then (impl_multi.l0 k x0 x5 (wrap64 (x6 + 1)) x286000 x286001 x286002 x286003) else (if x6 = x5 then (some (x286000, x286001, x286002, x286003, ([] : List Int), false)) else (if 0 ≤ x5 then (if x5 ≤ x6 then (if x6 ≤ (x0.length : Int) then ((impl_operation.f k ((x0.take (x6 : Int).toNat).drop (x5 : Int).toNat)).bind fun bt288 => (if bt288.2.2.2.2.2 = true then (if x286001.length < 2513169434916 then (impl_multi.l0 k x0 (wrap64 (x6 + 1)) (wrap64 (x6 + 1)) x286000 (x286001 ++ [(⟨bt288.1, bt288.2.1, bt288.2.2.1, bt288.2.2.2.1, bt288.2.2.2.2.1⟩ : S124)]) x286002 x286003) else (none)) else (some (x286000, x286001, x286002, x286003, ([] : List Int), false)))) else (none)) else (none)) else (none)))
end
def impl_multi.f (k : Nat) (l0 : List ByteArray) : Option (Int × (List (S124)) × Bool × ByteArray × List Int × Bool) := impl_multi.l0 k l0 1 1 1 ([] : List (S124)) true (⟨#[]⟩ : ByteArray)
theorem impl_multi.mono_l : ∀ k, (∀ y0 y1 y2 y3 y4 y5 y6, LeO (impl_multi.l0 k y0 y1 y2 y3 y4 y5 y6) (impl_multi.l0 (k + 1) y0 y1 y2 y3 y4 y5 y6)) ∧ (∀ y0 y1 y2 y3 y4 y5 y6 y7, LeO (impl_multi.j1 k y0 y1 y2 y3 y4 y5 y6 y7) (impl_multi.j1 (k + 1) y0 y1 y2 y3 y4 y5 y6 y7))
 | 0 => ⟨fun _ _ _ _ _ _ _ r h => by simp [impl_multi.l0] at h, fun _ _ _ _ _ _ _ _ r h => by simp [impl_multi.j1] at h⟩
 | k + 1 => by
  obtain ⟨ih0, ih1⟩ := impl_multi.mono_l k
  refine ⟨?_, ?_⟩
  ·intro y0 y1 y2 y3 y4 y5 y6
   unfold impl_multi.l0
   repeat' first
   | (with_reducible exact ih0 _ _ _ _ _ _ _)
   | (with_reducible exact ih1 _ _ _ _ _ _ _ _)
   | (with_reducible exact impl_operation.mono _ _)
   | (with_reducible exact LeO.refl _)
   | (with_reducible exact LeO.none _)
   | (with_reducible refine LeO.ite ?_ ?_)
   | (with_reducible refine LeO.bind ?_ (fun _ => ?_))
   | exact ih0 _ _ _ _ _ _ _
   | exact ih1 _ _ _ _ _ _ _ _
   | exact impl_operation.mono _ _
   | exact LeO.none _
   | refine LeO.ite ?_ ?_
   | refine LeO.bind ?_ (fun _ => ?_)
  ·intro y0 y1 y2 y3 y4 y5 y6 y7
   unfold impl_multi.j1
   repeat' first
   | (with_reducible exact ih0 _ _ _ _ _ _ _)
   | (with_reducible exact ih1 _ _ _ _ _ _ _ _)
   | (with_reducible exact impl_operation.mono _ _)
   | (with_reducible exact LeO.refl _)
   | (with_reducible exact LeO.none _)
   | (with_reducible refine LeO.ite ?_ ?_)
   | (with_reducible refine LeO.bind ?_ (fun _ => ?_))
   | exact ih0 _ _ _ _ _ _ _
   | exact ih1 _ _ _ _ _ _ _ _
   | exact impl_operation.mono _ _
   | exact LeO.none _
   | refine LeO.ite ?_ ?_
   | refine LeO.bind ?_ (fun _ => ?_)
theorem impl_multi.mono : ∀ a0 k, LeO (impl_multi.f k a0) (impl_multi.f (k + 1) a0) := by
 intro a0 k
 obtain ⟨ih0, ih1⟩ := impl_multi.mono_l k
 unfold impl_multi.f
 repeat' first
   | (with_reducible exact ih0 _ _ _ _ _ _ _)
   | (with_reducible exact ih1 _ _ _ _ _ _ _ _)
   | (with_reducible exact impl_operation.mono _ _)
   | (with_reducible exact LeO.refl _)
   | (with_reducible exact LeO.none _)
   | (with_reducible refine LeO.ite ?_ ?_)
   | (with_reducible refine LeO.bind ?_ (fun _ => ?_))
   | exact ih0 _ _ _ _ _ _ _
   | exact ih1 _ _ _ _ _ _ _ _
   | exact impl_operation.mono _ _
   | exact LeO.none _
   | refine LeO.ite ?_ ?_
   | refine LeO.bind ?_ (fun _ => ?_)
set_option maxHeartbeats 8000000 in
set_option maxRecDepth 100000 in
theorem impl_multi.calls (k : Nat) (A0 : Option Addr) (c0 : Nat) (l0 : List ByteArray) (r1 : Int) (r2 : List (S124)) (r3 : Bool) (r4 : ByteArray) (r5 : List Int) (r6 : Bool) (w : World) (hr0 : Kd.C Kd.string w A0 l0.length l0) (hc0 : l0.length ≤ c0) (h : impl_multi.f k l0 = some (r1, r2, r3, r4, r5, r6)) :
  Calls Tryd.prog 116 #[.slice A0 l0.length c0] w fun e w' => ∃ v1_ v4_ : Value, e = .returned (.tuple #[.agg #[.int .i64 r1, v1_, .bool r3, .string r4, v4_], .bool r6]) ∧ Kd.R k124 124 w' w.heap.size (fun _ => True) v1_ r2 ∧ Kd.R (Kd.int .i64) 2 w' w.heap.size (fun _ => True) v4_ r5 ∧ Below w.heap.size w w' := by
 have hu66 := Tryd.underlying66
 have hu124 := Tryd.underlying124
 have HR0 := Aside0.mk hr0
 have HC0 := Aside0.mk hc0
 clear hr0 hc0
 have HB := Aside0.mk (Below.refl w.heap.size w)
 have H : (impl_multi.l0 k l0 1 1 1 ([] : List (S124)) true (⟨#[]⟩ : ByteArray)) = some (r1, r2, r3, r4, r5, r6) := h
 clear h
 have H' := Aside0.mk H
 clear H
 go_enter Tryd.func116, Tryd.ntmps116
 go_wp2_with (first | ((with_reducible refine zu (N := 2) rfl ?_); refine zz ?hg (N := 2) ?hd (cs := #[.int .i64 0, .slice none 0 0, .bool false, .string (⟨#[]⟩ : ByteArray), .slice none 0 0]) (t := 66) ?hr ?_; (case hd => rfl); (case hg => rfl); (case hr => first | (go_simp; done) | (go_simp; rfl)); intro zE hg w2 hbox hb; have n0_ := Aside0.mk (zm (by exact bl HB.out) hb); have n1_ := Aside0.mk (hbox); have n2_ := Aside0.mk ((by rw [hg]; exact (zn (by exact bl HB.out)) : w.heap.size ≤ zE)); have n3_ := Aside0.mk ((by rw [hg]; exact (zn (by exact bl HB.out)) : w.heap.size ≤ zE)); clear HB; have HB := n0_; have zD := n1_; have GW284 := n2_; have zM := n3_; clear n0_ n1_ n2_ n3_; clear hb hbox hg) | ((with_reducible refine zu (N := 4) rfl ?_); refine zz ?hg (N := 4) ?hd (cs := #[.int .i64 0, .slice none 0 0, .bool false, .string (⟨#[]⟩ : ByteArray), .slice none 0 0]) (t := 66) ?hr ?_; (case hd => rfl); (case hg => rfl); (case hr => first | (go_simp; done) | (go_simp; rfl)); intro zF hg w3 hbox hb; have n0_ := Aside0.mk (zp (g := zE) (o := .cells #[.int .i64 0, .slice none 0 0, .bool false, .string (⟨#[]⟩ : ByteArray), .slice none 0 0] 66 (0, 0)) (BL zD.out) hb); have n1_ := Aside0.mk (zm (by exact bl HB.out) hb); have n2_ := Aside0.mk (hbox); have n3_ := Aside0.mk ((by rw [hg]; exact (zn (by exact bl HB.out)) : w.heap.size ≤ zF)); have n4_ := Aside0.mk ((by rw [hg]; exact (zn (by exact bl HB.out)) : w.heap.size ≤ zF)); have n5_ := Aside0.mk ((by rw [hg]; exact Nat.ne_of_lt (zB (g := zE) (o := .cells #[.int .i64 0, .slice none 0 0, .bool false, .string (⟨#[]⟩ : ByteArray), .slice none 0 0] 66 (0, 0)) (BL zD.out)) : zE ≠ zF)); have n6_ := Aside0.mk ((by rw [hg]; exact Nat.ne_of_gt (zB (g := zE) (o := .cells #[.int .i64 0, .slice none 0 0, .bool false, .string (⟨#[]⟩ : ByteArray), .slice none 0 0] 66 (0, 0)) (BL zD.out)) : zF ≠ zE)); clear zD; clear HB; have zD := n0_; have HB := n1_; have zC := n2_; have GW285 := n3_; have zN := n4_; have zK := n5_; have zO := n6_; clear n0_ n1_ n2_ n3_ n4_ n5_ n6_; clear hb hbox hg; have zpd := zO.out; have zqd := zK.out; have zS : w3.cell? ⟨zF, 0, none⟩ = some (.int .i64 0) := (zc zC.out 0).trans rfl; have zT : w3.cell? ⟨zF, 1, none⟩ = some (.slice none 0 0) := (zc zC.out 1).trans rfl; have zU : w3.cell? ⟨zF, 2, none⟩ = some (.bool false) := (zc zC.out 2).trans rfl; have zV : w3.cell? ⟨zF, 3, none⟩ = some (.string (⟨#[]⟩ : ByteArray)) := (zc zC.out 3).trans rfl; have zW : w3.cell? ⟨zF, 4, none⟩ = some (.slice none 0 0) := (zc zC.out 4).trans rfl; have zX := zb zC.out 0; have zY := zb zC.out 1; have zZ := zb zC.out 2; have zab := zb zC.out 3; have zbb := zb zC.out 4))
 go_loopg [5, 6] k (fun kq v5 v6 w' => ∃ (x5_1 : Int) (x6_1 : Int) (x285000_1 : Int) (x285002_1 : Bool) (x285003_1 : ByteArray) (x286001_1 : List (S124)) (u286001 : Value), v5 = .int .i64 x5_1 ∧ v6 = .int .i64 x6_1 ∧ Aside0 (impl_multi.l0 kq l0 x5_1 x6_1 1 x286001_1 true (⟨#[]⟩ : ByteArray) = some (r1, r2, r3, r4, r5, r6)) ∧ Aside0 (kq ≤ k) ∧ Aside0 (Kd.R k124 124 w' w.heap.size (fun _ => True) u286001 x286001_1) ∧ Aside0 (w'.heap[zE]? = some (.cells #[.int .i64 x285000_1, (.slice none 0 0), .bool x285002_1, .string x285003_1, (.slice none 0 0)] 66 (0, 0))) ∧ Aside0 (w'.heap[zF]? = some (.cells #[.int .i64 1, u286001, .bool true, .string (⟨#[]⟩ : ByteArray), (.slice none 0 0)] 66 (0, 0))) ∧ Aside0 (Below w.heap.size w w'))
 case atStart => exact ⟨(1), (1), (0), (false), ((⟨#[]⟩ : ByteArray)), (([] : List (S124))), (.slice none 0 0), (by first | rfl | (simp [*]; done)), (by first | rfl | (simp [*]; done)), H', ⟨Nat.le_refl _⟩, ⟨by first | exact Kd.R_nil _ _ _ _ _ | exact Kd.N_nil _ _ _ _ _ | exact Kd.V_nil _ _ _ _ _ | exact Kd.Q_nil _ _ _ _ _ | exact Kd.S_nil _ _ _ _ _⟩, ⟨by (with_reducible repeat (first | refine zf ?_ _ | refine zj ?_ | refine ze ?_ _)); refine zq ?_ zK.out _; (with_reducible repeat (first | refine zf ?_ _ | refine zj ?_ | refine ze ?_ _)); refine zq ?_ zK.out _; (with_reducible repeat (first | refine zf ?_ _ | refine zj ?_ | refine ze ?_ _)); refine zq ?_ zK.out _; (with_reducible repeat (first | refine zf ?_ _ | refine zj ?_ | refine ze ?_ _)); refine zq ?_ zK.out _; (with_reducible repeat (first | refine zf ?_ _ | refine zj ?_ | refine ze ?_ _)); refine zq ?_ zK.out _; (with_reducible repeat (first | refine zf ?_ _ | refine zj ?_ | refine ze ?_ _)); exact zD.out⟩, ⟨by (with_reducible repeat (first | refine zf ?_ _ | refine zj ?_ | refine ze ?_ _)); refine zx (cs := #[.int .i64 1, .slice none 0 0, .bool true, .string (⟨#[]⟩ : ByteArray), .slice none 0 0]) ?_ 4 _ rfl; (with_reducible repeat (first | refine zf ?_ _ | refine zj ?_ | refine ze ?_ _)); refine zx (cs := #[.int .i64 1, .slice none 0 0, .bool true, .string (⟨#[]⟩ : ByteArray), .slice none 0 0]) ?_ 3 _ rfl; (with_reducible repeat (first | refine zf ?_ _ | refine zj ?_ | refine ze ?_ _)); refine zx (cs := #[.int .i64 1, .slice none 0 0, .bool false, .string (⟨#[]⟩ : ByteArray), .slice none 0 0]) ?_ 2 _ rfl; (with_reducible repeat (first | refine zf ?_ _ | refine zj ?_ | refine ze ?_ _)); refine zx (cs := #[.int .i64 1, .slice none 0 0, .bool false, .string (⟨#[]⟩ : ByteArray), .slice none 0 0]) ?_ 1 _ rfl; (with_reducible repeat (first | refine zf ?_ _ | refine zj ?_ | refine ze ?_ _)); refine zx (cs := #[.int .i64 0, .slice none 0 0, .bool false, .string (⟨#[]⟩ : ByteArray), .slice none 0 0]) ?_ 0 _ rfl; (with_reducible repeat (first | refine zf ?_ _ | refine zj ?_ | refine ze ?_ _)); exact zC.out⟩, ⟨by repeat (first | (with_reducible first | exact HB.out | apply zh | apply zd | apply zi | refine zl ?_ zM.out | refine zl ?_ zN.out) | exact HB.out)⟩⟩
 case round =>
  clear H'
  try clear c1
  try clear p2
  try clear c4
  try clear zS
  try clear zT
  try clear zU
  try clear zV
  try clear zW
  try clear zX
  try clear zY
  try clear zZ
  try clear zab
  try clear zbb
  obtain ⟨x5_1, x6_1, x285000_1, x285002_1, x285003_1, x286001_1, u286001, rfl, rfl, HA, HK1, zG, zD, zC, HB⟩ := hrel
  cases gk with
  | zero => exact absurd HA.out (by simp [impl_multi.l0])
  | succ k1 =>
   have H := HA.out
   clear HA
   simp only [impl_multi.l0] at H
   by_cases c6 : x6_1 ≤ (l0.length : Int)
   ·rw [if_pos c6] at H
    have c6b0 : decide (x6_1 ≤ (l0.length : Int)) = true := decide_eq_true c6
    clear c6
    have HC7 := Aside0.mk H
    clear H
    go_upto_region 6 with (fail)
    go_cut [26] (fun v26 wc => ∃ (kq : Nat) (x26_6 : Bool), v26 = .bool x26_6 ∧ Aside0 (impl_multi.j1 kq l0 x5_1 x6_1 x26_6 1 x286001_1 true (⟨#[]⟩ : ByteArray) = some (r1, r2, r3, r4, r5, r6)) ∧ Aside0 (kq ≤ k1) ∧ Aside0 (Kd.R k124 124 wc w.heap.size (fun _ => True) u286001 x286001_1) ∧ Aside0 (wc.heap[zE]? = some (.cells #[.int .i64 x285000_1, (.slice none 0 0), .bool x285002_1, .string x285003_1, (.slice none 0 0)] 66 (0, 0))) ∧ Aside0 (wc.heap[zF]? = some (.cells #[.int .i64 1, u286001, .bool true, .string (⟨#[]⟩ : ByteArray), (.slice none 0 0)] 66 (0, 0))) ∧ Aside0 (Below w.heap.size w wc))
    case first =>
     have H := HC7.out
     clear HC7
     by_cases c8 : x6_1 < (l0.length : Int)
     ·rw [if_pos c8] at H
      have c8b0 : decide (x6_1 < (l0.length : Int)) = true := decide_eq_true c8
      clear c8
      (first | rw [c8b0] | (simp only [zr, zt]; rw [c8b0]) | skip)
      by_cases c9 : 0 ≤ x6_1
      ·rw [if_pos c9] at H
       have c9b0 : decide (0 ≤ x6_1) = true := decide_eq_true c9
       clear c9
       have H' := Aside0.mk H
       clear H
       have p286 : 0 ≤ (x6_1 : Int) := of_decide_eq_true (by with_reducible assumption)
       have q286 : x6_1 < (l0.length : Int) := of_decide_eq_true (by with_reducible assumption)
       obtain ⟨ad286, e286, hx286_0⟩ := Kd.at_string HR0.out x6_1 p286 q286
       cases e286
       replace hx286_0 := zk HB.out hx286_0
       replace p286 := eq_true p286
       replace q286 := eq_true q286
       go_wp2
       go_meet
       case rel => exact ⟨_, (((rdOf ByteArray.empty l0 x6_1).toList != ([59] : List UInt8))), (by first | rfl | (simp [*]; done)), H', ⟨by have := HK1.out; first | omega | exact Nat.le_refl _⟩, ⟨RL zG.out⟩, ⟨BL zD.out⟩, ⟨BL zC.out⟩, ⟨by repeat (first | (with_reducible first | exact HB.out | apply zh | apply zd | apply zi | refine zl ?_ zM.out | refine zl ?_ zN.out) | exact HB.out)⟩⟩
      ·rw [if_neg c9] at H
       exact absurd H (by simp)
     ·rw [if_neg c8] at H
      have c8b0 : decide (x6_1 < (l0.length : Int)) = false := decide_eq_false c8
      clear c8
      (first | rw [c8b0] | (simp only [zr, zt]; rw [c8b0]) | skip)
      have H' := Aside0.mk H
      clear H
      go_wp2
      go_meet
      case rel => exact ⟨_, (false), (by first | rfl | (simp [*]; done)), H', ⟨by have := HK1.out; first | omega | exact Nat.le_refl _⟩, ⟨RL zG.out⟩, ⟨BL zD.out⟩, ⟨BL zC.out⟩, ⟨by repeat (first | (with_reducible first | exact HB.out | apply zh | apply zd | apply zi | refine zl ?_ zM.out | refine zl ?_ zN.out) | exact HB.out)⟩⟩
    case rest =>
     clear HC7
     try clear c1
     try clear p2
     try clear q2
     try clear hx2
     try clear c4
     try clear c6
     try clear c6b0
     try clear c8
     try clear c8b0
     try clear c9
     try clear c9b0
     try clear zS
     try clear zT
     try clear zU
     try clear zV
     try clear zW
     try clear zX
     try clear zY
     try clear zZ
     try clear zab
     try clear zbb
     try clear hx286_0
     try clear p2
     try clear p286
     try clear q286
     obtain ⟨kq, x26_6, rfl, HA, HJ6, zG, zD, zC, HB⟩ := hcut
     cases kq with
     | zero => exact absurd HA.out (by simp [impl_multi.j1])
     | succ kj6 =>
      have H := HA.out
      clear HA
      simp only [impl_multi.j1] at H
      by_cases c10 : x26_6 = true
      ·subst c10
       rw [if_pos rfl] at H
       have H' := Aside0.mk H
       clear H
       go_wp2
       go_roundg kj6
       case measure => have := HK1.out; have := HJ6.out; omega
       case rel => exact ⟨(x5_1), (wrap64 (x6_1 + 1)), (x285000_1), (x285002_1), (x285003_1), (x286001_1), (u286001), (by first | rfl | (simp [*]; done)), (by first | rfl | (simp [*]; done)), H', ⟨by have := HK1.out; have := HJ6.out; omega⟩, ⟨RL zG.out⟩, ⟨BL zD.out⟩, ⟨BL zC.out⟩, ⟨by repeat (first | (with_reducible first | exact HB.out | apply zh | apply zd | apply zi | refine zl ?_ zM.out | refine zl ?_ zN.out) | exact HB.out)⟩⟩
      ·replace c10 := Bool.eq_false_iff.mpr c10
       subst c10
       rw [if_neg (show ¬ (false = true) by decide)] at H
       by_cases c11 : x6_1 = x5_1
       ·rw [if_pos c11] at H
        have c11b0 : (x6_1 == x5_1) = true := beq_iff_eq.mpr c11
        have c11b1 : (x6_1 != x5_1) = false := bne_eq_false_iff_eq.mpr c11
        clear c11
        simp only [Option.some.injEq, Prod.mk.injEq] at H
        obtain ⟨rfl, rfl, rfl, rfl, rfl, rfl⟩ := H
        have zZc := zO.out
        have zad := zK.out
        have zdb : wc.cell? ⟨zF, 0, none⟩ = some (.int .i64 1) := (zc zC.out 0).trans rfl
        have zeb : wc.cell? ⟨zF, 1, none⟩ = some (u286001) := (zc zC.out 1).trans rfl
        have zfb : wc.cell? ⟨zF, 2, none⟩ = some (.bool true) := (zc zC.out 2).trans rfl
        have zgb : wc.cell? ⟨zF, 3, none⟩ = some (.string (⟨#[]⟩ : ByteArray)) := (zc zC.out 3).trans rfl
        have zhb : wc.cell? ⟨zF, 4, none⟩ = some (.slice none 0 0) := (zc zC.out 4).trans rfl
        have zib := zb zC.out 0
        have zjb := zb zC.out 1
        have zkb := zb zC.out 2
        have zlb := zb zC.out 3
        have zmb := zb zC.out 4
        have znb : wc.cell? ⟨zE, 0, none⟩ = some (.int .i64 x285000_1) := (zc zD.out 0).trans rfl
        have zob : wc.cell? ⟨zE, 1, none⟩ = some (.slice none 0 0) := (zc zD.out 1).trans rfl
        have zpb : wc.cell? ⟨zE, 2, none⟩ = some (.bool x285002_1) := (zc zD.out 2).trans rfl
        have zqb : wc.cell? ⟨zE, 3, none⟩ = some (.string x285003_1) := (zc zD.out 3).trans rfl
        have zrb : wc.cell? ⟨zE, 4, none⟩ = some (.slice none 0 0) := (zc zD.out 4).trans rfl
        have zsb := zb zD.out 0
        have ztb := zb zD.out 1
        have zub := zb zD.out 2
        have zvb := zb zD.out 3
        have zwb := zb zD.out 4
        obtain ⟨Ao15, co15, eo15⟩ := Kd.R_slice zG.out
        subst eo15
        go_wp2
        refine bodyPost_ret (results_ct rfl _ _ zE 66 #[.int .i64 1, .slice Ao15 x286001_1.length co15, .bool true, .string (⟨#[]⟩ : ByteArray), .slice none 0 0] (0, 0) _ rfl (bfin (by (repeat (first | (with_reducible first | refine zf ?_ _ | refine zj ?_ | refine ze ?_ _) | apply zA)); exact zD.out) (by rfl)) Tryd.underlying66 rfl (by kernel_rfl)) rfl ?_
        exact ⟨_, _, by first | rfl | (simp [*] <;> rfl), RL (Kd.R_mono (Kd.R_far (p := ⟨zE, 4, none⟩) (Kd.R_far (p := ⟨zE, 3, none⟩) (Kd.R_far (p := ⟨zE, 2, none⟩) (Kd.R_far (p := ⟨zE, 1, none⟩) (Kd.R_far (p := ⟨zE, 0, none⟩) (Kd.R_types zG.out zD.out (by decide)) (fun _ hk => hk.2) (.int .i64 1)) (fun _ hk => hk.2) (.slice Ao15 x286001_1.length co15)) (fun _ hk => hk.2) (.bool true)) (fun _ hk => hk.2) (.string (⟨#[]⟩ : ByteArray))) (fun _ hk => hk.2) (.slice none 0 0)) (fun _ hk => trivial)), by first | exact Kd.R_nil _ _ _ _ _ | exact Kd.N_nil _ _ _ _ _ | exact Kd.V_nil _ _ _ _ _ | exact Kd.Q_nil _ _ _ _ _ | exact Kd.S_nil _ _ _ _ _, by repeat (first | (with_reducible first | exact HB.out | apply zh | apply zd | apply zi | refine zl ?_ zM.out | refine zl ?_ zN.out) | exact HB.out)⟩
       ·rw [if_neg c11] at H
        have c11b0 : (x6_1 == x5_1) = false := beq_eq_false_iff_ne.mpr c11
        have c11b1 : (x6_1 != x5_1) = true := bne_iff_ne.mpr c11
        by_cases c16 : 0 ≤ x5_1
        ·rw [if_pos c16] at H
         have c16b0 := eq_true c16
         have c16b1 : decide (0 ≤ x5_1) = true := decide_eq_true c16
         clear c16
         by_cases c17 : x5_1 ≤ x6_1
         ·rw [if_pos c17] at H
          have c17b0 := eq_true c17
          have c17b1 : decide (x5_1 ≤ x6_1) = true := decide_eq_true c17
          clear c17
          by_cases c18 : x6_1 ≤ (l0.length : Int)
          ·rw [if_pos c18] at H
           have c18b0 := eq_true c18
           have c18b1 : decide (x6_1 ≤ (l0.length : Int)) = true := decide_eq_true c18
           clear c18
           replace H := Option.bind_eq_some_iff.mp H
           obtain ⟨⟨t288, t289, t290, t291, t292, t293⟩, A190, H⟩ := H
           try dsimp only at H
           have A19 := Aside0.mk A190
           clear A190
           by_cases c20 : t293 = true
           ·subst c20
            rw [if_pos rfl] at H
            by_cases c21 : x286001_1.length < 2513169434916
            ·rw [if_pos c21] at H
             have LMc21 := Aside0.mk c21
             clear c21
             obtain ⟨y295, hy295⟩ : ∃ y_ : List (S124), y_ = (x286001_1 ++ [(⟨t288, t289, t290, t291, t292⟩ : S124)]) := ⟨_, rfl⟩
             replace H : (impl_multi.l0 kj6 l0 (wrap64 (x6_1 + 1)) (wrap64 (x6_1 + 1)) 1 y295 true (⟨#[]⟩ : ByteArray)) = some (r1, r2, r3, r4, r5, r6) := by first | (rw [hy295]; with_reducible exact H) | (have H2_ := (Option.bind_some _ _).symm.trans H; rw [hy295]; with_reducible exact H2_) | (have H2_ := (Option.bind_some _ _).symm.trans H; with_reducible exact H2_) | with_reducible exact H | (rw [hy295]; exact H) | exact H
             have Ny295 := Aside0.mk hy295
             clear hy295
             have H' := Aside0.mk H
             clear H
             obtain ⟨i022, hi022, _, hsz22, _⟩ := info_parts info9
             obtain ⟨A22, hcut22, hA22, hC22⟩ := print_mid_of (P := Tryd.prog) Value.string (⟨#[]⟩ : ByteArray) 119 9 .i64 .i64 Tryd.underlying119 hi022 hsz22 A0 c0 l0 x5_1 x6_1 (of_decide_eq_true (by with_reducible assumption)) (by first | omega | exact of_decide_eq_true (by with_reducible assumption)) (of_decide_eq_true (by with_reducible assumption)) HC0.out
             have HR287 := Aside0.mk (Kd.C_of_reads (h1 := fun _ => rfl) (hA22 _ (Kd.reads_of_C HR0.out)))
             have HC287 := Aside0.mk hC22
             clear hA22 hC22 hi022 hsz22
             go_wp2_with (first | ((with_reducible refine zo (f := 139) rfl ?_); refine zy (some 36) rfl rfl Tryd.func139 (by kernel_rfl) rfl #[.slice A22 ((l0.take (x6_1 : Int).toNat).drop (x5_1 : Int).toNat).length (c0 - x5_1.toNat)] rfl (by (try simp only [List.map_toArray, List.map_cons, List.map_nil]); first | done | (rw [show ((l0.take (x6_1 : Int).toNat).drop (x5_1 : Int).toNat).length = (x6_1.toNat - x5_1.toNat) from (by rw [List.length_drop, List.length_take]; have h_ : (x6_1 : Int) ≤ (l0.length : Int) := of_decide_eq_true (by with_reducible assumption); omega)] <;> rfl) | rfl | (simp only [List.length_drop, List.length_take]; rfl)) ?_; (with_reducible refine (impl_operation.calls kj6 _ _ ((l0.take (x6_1 : Int).toNat).drop (x5_1 : Int).toNat) t288 t289 t290 t291 t292 true _ ?side1 ?side2 A19.out).mono ?_); (case side1 => repeat (first | exact (Kd.C_below HR287.out HB.out) | (with_reducible refine Kd.C_alloc ?_ _) | (with_reducible refine Kd.C_drewN ?_ _) | (with_reducible refine Kd.C_drew ?_))); (case side2 => exact HC287.out); rintro e w23 ⟨rfl, hb⟩; refine ⟨_, rfl, ?_⟩; have n0_ := Aside0.mk (Kd.R_below (RL zG.out) hb); have n1_ := Aside0.mk (zp (g := zE) (o := .cells #[.int .i64 x285000_1, .slice none 0 0, .bool x285002_1, .string x285003_1, .slice none 0 0] 66 (0, 0)) (BL zD.out) hb); have n2_ := Aside0.mk (zp (g := zF) (o := .cells #[.int .i64 1, u286001, .bool true, .string (⟨#[]⟩ : ByteArray), .slice none 0 0] 66 (0, 0)) (BL zC.out) hb); have n3_ := Aside0.mk (zm (by exact bl HB.out) hb); clear zG; clear zD; clear zC; clear HB; have zG := n0_; have zD := n1_; have zC := n2_; have HB := n3_; clear n0_ n1_ n2_ n3_; (try clear hb); (try clear hb2); (try clear hk); (try clear hi)) | ((with_reducible refine zu (N := 7) rfl ?_); refine zz ?hg (N := 7) ?hd (cs := #[.int .i64 0, .string (⟨#[]⟩ : ByteArray), .string (⟨#[]⟩ : ByteArray), .int .i64 0, .bool false]) (t := 124) ?hr ?_; (case hd => rfl); (case hg => rfl); (case hr => first | (go_simp; done) | (go_simp; rfl)); intro zH hg w24 hbox hb; have n0_ := Aside0.mk (Kd.R_below (Kd.R_elderB (RL zG.out) zH (Nat.le_of_eq hg.symm)) hb); have n1_ := Aside0.mk (zp (g := zE) (o := .cells #[.int .i64 x285000_1, .slice none 0 0, .bool x285002_1, .string x285003_1, .slice none 0 0] 66 (0, 0)) (BL zD.out) hb); have n2_ := Aside0.mk (zp (g := zF) (o := .cells #[.int .i64 1, u286001, .bool true, .string (⟨#[]⟩ : ByteArray), .slice none 0 0] 66 (0, 0)) (BL zC.out) hb); have n3_ := Aside0.mk (zm (by exact bl HB.out) hb); have n4_ := Aside0.mk (hbox); have n5_ := Aside0.mk ((by rw [hg]; exact (zn (by exact bl HB.out)) : w.heap.size ≤ zH)); have n6_ := Aside0.mk ((by rw [hg]; exact (zn (by exact bl HB.out)) : w.heap.size ≤ zH)); have n7_ := Aside0.mk ((by rw [hg]; exact Nat.ne_of_lt (zB (g := zE) (o := .cells #[.int .i64 x285000_1, .slice none 0 0, .bool x285002_1, .string x285003_1, .slice none 0 0] 66 (0, 0)) (BL zD.out)) : zE ≠ zH)); have n8_ := Aside0.mk ((by rw [hg]; exact Nat.ne_of_gt (zB (g := zE) (o := .cells #[.int .i64 x285000_1, .slice none 0 0, .bool x285002_1, .string x285003_1, .slice none 0 0] 66 (0, 0)) (BL zD.out)) : zH ≠ zE)); have n9_ := Aside0.mk ((by rw [hg]; exact Nat.ne_of_lt (zB (g := zF) (o := .cells #[.int .i64 1, u286001, .bool true, .string (⟨#[]⟩ : ByteArray), .slice none 0 0] 66 (0, 0)) (BL zC.out)) : zF ≠ zH)); have n10_ := Aside0.mk ((by rw [hg]; exact Nat.ne_of_gt (zB (g := zF) (o := .cells #[.int .i64 1, u286001, .bool true, .string (⟨#[]⟩ : ByteArray), .slice none 0 0] 66 (0, 0)) (BL zC.out)) : zH ≠ zF)); clear zG; clear zD; clear zC; clear HB; have zG := n0_; have zD := n1_; have zC := n2_; have HB := n3_; have zI := n4_; have GW294 := n5_; have zR := n6_; have zJ := n7_; have zP := n8_; have zL := n9_; have zQ := n10_; clear n0_ n1_ n2_ n3_ n4_ n5_ n6_ n7_ n8_ n9_ n10_; clear hb hbox hg; have zbd := zP.out; have zcd := zJ.out; have zdd := zQ.out; have zed := zL.out; have zxb : w24.cell? ⟨zH, 0, none⟩ = some (.int .i64 0) := (zc zI.out 0).trans rfl; have zyb : w24.cell? ⟨zH, 1, none⟩ = some (.string (⟨#[]⟩ : ByteArray)) := (zc zI.out 1).trans rfl; have zzb : w24.cell? ⟨zH, 2, none⟩ = some (.string (⟨#[]⟩ : ByteArray)) := (zc zI.out 2).trans rfl; have zAb : w24.cell? ⟨zH, 3, none⟩ = some (.int .i64 0) := (zc zI.out 3).trans rfl; have zBb : w24.cell? ⟨zH, 4, none⟩ = some (.bool false) := (zc zI.out 4).trans rfl; have zCb := zb zI.out 0; have zDb := zb zI.out 1; have zEb := zb zI.out 2; have zFb := zb zI.out 3; have zGb := zb zI.out 4; have zfd := zO.out; have zgd := zK.out; have zHb : w24.cell? ⟨zF, 0, none⟩ = some (.int .i64 1) := (zc zC.out 0).trans rfl; have zIb : w24.cell? ⟨zF, 1, none⟩ = some (u286001) := (zc zC.out 1).trans rfl; have zJb : w24.cell? ⟨zF, 2, none⟩ = some (.bool true) := (zc zC.out 2).trans rfl; have zKb : w24.cell? ⟨zF, 3, none⟩ = some (.string (⟨#[]⟩ : ByteArray)) := (zc zC.out 3).trans rfl; have zLb : w24.cell? ⟨zF, 4, none⟩ = some (.slice none 0 0) := (zc zC.out 4).trans rfl; have zMb := zb zC.out 0; have zNb := zb zC.out 1; have zOb := zb zC.out 2; have zPb := zb zC.out 3; have zQb := zb zC.out 4) | ((with_reducible refine gate_builtin (b := .append) (xs := #[.tmp 44, .tmp 46]) rfl ?_); at_builtin; refine Kd.R_append k124 (w0 := w) w.heap.size rfl (.tmp 44) (.tmp 46) 61 124 (.agg #[(.int .i64 0), (.string ⟨#[]⟩), (.string ⟨#[]⟩), (.int .i64 0), (.bool false)]) 56 rfl Tryd.underlying61 info124 rfl (by decide) (by omega) u286001 x286001_1 (⟨t288, t289, t290, t291, t292⟩ : S124) [.int .i64 t288, .string t289, .string t290, .int .i64 t291, .bool t292] (fun k_ => k_ ≠ zH) (fun _ => False) rfl (by first | (go_simp; done) | (go_simp; rfl)) ?aP (fun _ hk => hk.elim) ?aF ?aO ?aB ?aS ?aL ?_; (case aP => exact k124_mkM _ _ _ (⟨t288, t289, t290, t291, t292⟩ : S124)); (case aB => exact (by repeat (first | (with_reducible first | exact HB.out | apply zh | apply zd | apply zi | refine zl ?_ zM.out | refine zl ?_ zN.out | refine zl ?_ zR.out) | exact HB.out))); (case aF => exact (fun k_ hk => Kd.freshB (g := zH) (o := .cells #[.int .i64 t288, .string t289, .string t290, .int .i64 t291, .bool t292] 124 (0, 0)) (bfin (by (repeat (first | (with_reducible first | refine zf ?_ _ | refine zj ?_ | refine ze ?_ _) | apply zA)); exact zI.out) (by rfl)) k_ hk)); (case aO => exact (RL (Kd.R_mono (Kd.R_far (p := ⟨zH, 4, none⟩) (Kd.R_far (p := ⟨zH, 3, none⟩) (Kd.R_far (p := ⟨zH, 2, none⟩) (Kd.R_far (p := ⟨zH, 1, none⟩) (Kd.R_far (p := ⟨zH, 0, none⟩) (Kd.R_mono zG.out (fun k_ hk => (⟨hk, hk.2⟩ : _ ∧ k_ ≠ zH))) (fun _ hk => hk.2) (.int .i64 t288)) (fun _ hk => hk.2) (.string t289)) (fun _ hk => hk.2) (.string t290)) (fun _ hk => hk.2) (.int .i64 t291)) (fun _ hk => hk.2) (.bool t292)) (fun _ hk => hk.1.2)))); (case aS => exact (zn (by repeat (first | (with_reducible first | exact HB.out | apply zh | apply zd | apply zi | refine zl ?_ zM.out | refine zl ?_ zN.out | refine zl ?_ zR.out) | exact HB.out)))); (case aL => have := LMc21.out; omega); intro v296 w30 ho hb hg hat; rw [← Ny295.out] at ho; have n0_ := Aside0.mk (blk_grown (g := zE) (o := .cells #[.int .i64 x285000_1, .slice none 0 0, .bool x285002_1, .string x285003_1, .slice none 0 0] 66 (0, 0)) (by (with_reducible repeat (first | refine zf ?_ _ | refine zj ?_ | refine ze ?_ _)); refine zq ?_ zJ.out _; (with_reducible repeat (first | refine zf ?_ _ | refine zj ?_ | refine ze ?_ _)); refine zq ?_ zJ.out _; (with_reducible repeat (first | refine zf ?_ _ | refine zj ?_ | refine ze ?_ _)); refine zq ?_ zJ.out _; (with_reducible repeat (first | refine zf ?_ _ | refine zj ?_ | refine ze ?_ _)); refine zq ?_ zJ.out _; (with_reducible repeat (first | refine zf ?_ _ | refine zj ?_ | refine ze ?_ _)); refine zq ?_ zJ.out _; (with_reducible repeat (first | refine zf ?_ _ | refine zj ?_ | refine ze ?_ _)); exact zD.out) hg (Kd.R_ne zG.out zD.out (by decide))); have n1_ := Aside0.mk (blk_grown (g := zF) (o := .cells #[.int .i64 1, u286001, .bool true, .string (⟨#[]⟩ : ByteArray), .slice none 0 0] 66 (0, 0)) (by (with_reducible repeat (first | refine zf ?_ _ | refine zj ?_ | refine ze ?_ _)); refine zq ?_ zL.out _; (with_reducible repeat (first | refine zf ?_ _ | refine zj ?_ | refine ze ?_ _)); refine zq ?_ zL.out _; (with_reducible repeat (first | refine zf ?_ _ | refine zj ?_ | refine ze ?_ _)); refine zq ?_ zL.out _; (with_reducible repeat (first | refine zf ?_ _ | refine zj ?_ | refine ze ?_ _)); refine zq ?_ zL.out _; (with_reducible repeat (first | refine zf ?_ _ | refine zj ?_ | refine ze ?_ _)); refine zq ?_ zL.out _; (with_reducible repeat (first | refine zf ?_ _ | refine zj ?_ | refine ze ?_ _)); exact zC.out) hg (Kd.R_ne zG.out zC.out (by decide))); have n2_ := Aside0.mk (blk_grown (g := zH) (o := .cells #[.int .i64 t288, .string t289, .string t290, .int .i64 t291, .bool t292] 124 (0, 0)) (bfin (by (repeat (first | (with_reducible first | refine zf ?_ _ | refine zj ?_ | refine ze ?_ _) | apply zA)); exact zI.out) (by rfl)) hg (Kd.R_away zG.out (fun _ hk => hk.2))); have n3_ := Aside0.mk (hb); have n4_ := Aside0.mk (ho); clear zD; clear zC; clear zI; clear HB; clear zG; have zD := n0_; have zC := n1_; have zI := n2_; have HB := n3_; have zcb := n4_; clear n0_ n1_ n2_ n3_ n4_; clear ho hb hg hat; obtain ⟨Ao31, co31, eo31⟩ := Kd.R_slice zcb.out; subst eo31; have zRb : w30.cell? ⟨zF, 0, none⟩ = some (.int .i64 1) := (zc zC.out 0).trans rfl; have zSb : w30.cell? ⟨zF, 1, none⟩ = some (u286001) := (zc zC.out 1).trans rfl; have zTb : w30.cell? ⟨zF, 2, none⟩ = some (.bool true) := (zc zC.out 2).trans rfl; have zUb : w30.cell? ⟨zF, 3, none⟩ = some (.string (⟨#[]⟩ : ByteArray)) := (zc zC.out 3).trans rfl; have zVb : w30.cell? ⟨zF, 4, none⟩ = some (.slice none 0 0) := (zc zC.out 4).trans rfl; have zWb := zb zC.out 0; have zXb := zb zC.out 1; have zYb := zb zC.out 2; have zZb := zb zC.out 3; have zac := zb zC.out 4))
             go_roundg kj6
             case measure => have := HK1.out; have := HJ6.out; omega
             case rel => exact ⟨(wrap64 (x6_1 + 1)), (wrap64 (x6_1 + 1)), (x285000_1), (x285002_1), (x285003_1), (y295), (.slice Ao31 y295.length co31), (by first | rfl | (simp [*]; done)), (by first | rfl | (simp [*]; done)), H', ⟨by have := HK1.out; have := HJ6.out; omega⟩, ⟨RL (Kd.R_mono (Kd.R_far (p := ⟨zF, 1, none⟩) (Kd.R_types zcb.out zC.out (by decide)) (fun _ hk => hk.2) (.slice Ao31 y295.length co31)) (fun _ hk => trivial))⟩, ⟨by (with_reducible repeat (first | refine zf ?_ _ | refine zj ?_ | refine ze ?_ _)); refine zq ?_ zK.out _; (with_reducible repeat (first | refine zf ?_ _ | refine zj ?_ | refine ze ?_ _)); exact zD.out⟩, ⟨by (with_reducible repeat (first | refine zf ?_ _ | refine zj ?_ | refine ze ?_ _)); refine zx (cs := #[.int .i64 1, u286001, .bool true, .string (⟨#[]⟩ : ByteArray), .slice none 0 0]) ?_ 1 _ rfl; (with_reducible repeat (first | refine zf ?_ _ | refine zj ?_ | refine ze ?_ _)); exact zC.out⟩, ⟨by repeat (first | (with_reducible first | exact HB.out | apply zh | apply zd | apply zi | refine zl ?_ zM.out | refine zl ?_ zN.out | refine zl ?_ zR.out) | exact HB.out)⟩⟩
            ·rw [if_neg c21] at H
             exact absurd H (by simp)
           ·replace c20 := Bool.eq_false_iff.mpr c20
            subst c20
            rw [if_neg (show ¬ (false = true) by decide)] at H
            simp only [Option.some.injEq, Prod.mk.injEq] at H
            obtain ⟨rfl, rfl, rfl, rfl, rfl, rfl⟩ := H
            obtain ⟨i033, hi033, _, hsz33, _⟩ := info_parts info9
            obtain ⟨A33, hcut33, hA33, hC33⟩ := print_mid_of (P := Tryd.prog) Value.string (⟨#[]⟩ : ByteArray) 119 9 .i64 .i64 Tryd.underlying119 hi033 hsz33 A0 c0 l0 x5_1 x6_1 (of_decide_eq_true (by with_reducible assumption)) (by first | omega | exact of_decide_eq_true (by with_reducible assumption)) (of_decide_eq_true (by with_reducible assumption)) HC0.out
            have HR287 := Aside0.mk (Kd.C_of_reads (h1 := fun _ => rfl) (hA33 _ (Kd.reads_of_C HR0.out)))
            have HC287 := Aside0.mk hC33
            clear hA33 hC33 hi033 hsz33
            go_wp2_with (first | ((with_reducible refine zo (f := 139) rfl ?_); refine zy (some 36) rfl rfl Tryd.func139 (by kernel_rfl) rfl #[.slice A33 ((l0.take (x6_1 : Int).toNat).drop (x5_1 : Int).toNat).length (c0 - x5_1.toNat)] rfl (by (try simp only [List.map_toArray, List.map_cons, List.map_nil]); first | done | (rw [show ((l0.take (x6_1 : Int).toNat).drop (x5_1 : Int).toNat).length = (x6_1.toNat - x5_1.toNat) from (by rw [List.length_drop, List.length_take]; have h_ : (x6_1 : Int) ≤ (l0.length : Int) := of_decide_eq_true (by with_reducible assumption); omega)] <;> rfl) | rfl | (simp only [List.length_drop, List.length_take]; rfl)) ?_; (with_reducible refine (impl_operation.calls kj6 _ _ ((l0.take (x6_1 : Int).toNat).drop (x5_1 : Int).toNat) t288 t289 t290 t291 t292 false _ ?side1 ?side2 A19.out).mono ?_); (case side1 => repeat (first | exact (Kd.C_below HR287.out HB.out) | (with_reducible refine Kd.C_alloc ?_ _) | (with_reducible refine Kd.C_drewN ?_ _) | (with_reducible refine Kd.C_drew ?_))); (case side2 => exact HC287.out); rintro e w34 ⟨rfl, hb⟩; refine ⟨_, rfl, ?_⟩; have n0_ := Aside0.mk (Kd.R_below (RL zG.out) hb); have n1_ := Aside0.mk (zp (g := zE) (o := .cells #[.int .i64 x285000_1, .slice none 0 0, .bool x285002_1, .string x285003_1, .slice none 0 0] 66 (0, 0)) (BL zD.out) hb); have n2_ := Aside0.mk (zp (g := zF) (o := .cells #[.int .i64 1, u286001, .bool true, .string (⟨#[]⟩ : ByteArray), .slice none 0 0] 66 (0, 0)) (BL zC.out) hb); have n3_ := Aside0.mk (zm (by exact bl HB.out) hb); clear zG; clear zD; clear zC; clear HB; have zG := n0_; have zD := n1_; have zC := n2_; have HB := n3_; clear n0_ n1_ n2_ n3_; (try clear hb); (try clear hb2); (try clear hk); (try clear hi)) | ((with_reducible refine zu (N := 7) rfl ?_); refine zz ?hg (N := 7) ?hd (cs := #[.int .i64 0, .string (⟨#[]⟩ : ByteArray), .string (⟨#[]⟩ : ByteArray), .int .i64 0, .bool false]) (t := 124) ?hr ?_; (case hd => rfl); (case hg => rfl); (case hr => first | (go_simp; done) | (go_simp; rfl)); intro zH hg w35 hbox hb; have n0_ := Aside0.mk (Kd.R_below (Kd.R_elderB (RL zG.out) zH (Nat.le_of_eq hg.symm)) hb); have n1_ := Aside0.mk (zp (g := zE) (o := .cells #[.int .i64 x285000_1, .slice none 0 0, .bool x285002_1, .string x285003_1, .slice none 0 0] 66 (0, 0)) (BL zD.out) hb); have n2_ := Aside0.mk (zp (g := zF) (o := .cells #[.int .i64 1, u286001, .bool true, .string (⟨#[]⟩ : ByteArray), .slice none 0 0] 66 (0, 0)) (BL zC.out) hb); have n3_ := Aside0.mk (zm (by exact bl HB.out) hb); have n4_ := Aside0.mk (hbox); have n5_ := Aside0.mk ((by rw [hg]; exact (zn (by exact bl HB.out)) : w.heap.size ≤ zH)); have n6_ := Aside0.mk ((by rw [hg]; exact (zn (by exact bl HB.out)) : w.heap.size ≤ zH)); have n7_ := Aside0.mk ((by rw [hg]; exact Nat.ne_of_lt (zB (g := zE) (o := .cells #[.int .i64 x285000_1, .slice none 0 0, .bool x285002_1, .string x285003_1, .slice none 0 0] 66 (0, 0)) (BL zD.out)) : zE ≠ zH)); have n8_ := Aside0.mk ((by rw [hg]; exact Nat.ne_of_gt (zB (g := zE) (o := .cells #[.int .i64 x285000_1, .slice none 0 0, .bool x285002_1, .string x285003_1, .slice none 0 0] 66 (0, 0)) (BL zD.out)) : zH ≠ zE)); have n9_ := Aside0.mk ((by rw [hg]; exact Nat.ne_of_lt (zB (g := zF) (o := .cells #[.int .i64 1, u286001, .bool true, .string (⟨#[]⟩ : ByteArray), .slice none 0 0] 66 (0, 0)) (BL zC.out)) : zF ≠ zH)); have n10_ := Aside0.mk ((by rw [hg]; exact Nat.ne_of_gt (zB (g := zF) (o := .cells #[.int .i64 1, u286001, .bool true, .string (⟨#[]⟩ : ByteArray), .slice none 0 0] 66 (0, 0)) (BL zC.out)) : zH ≠ zF)); clear zG; clear zD; clear zC; clear HB; have zG := n0_; have zD := n1_; have zC := n2_; have HB := n3_; have zI := n4_; have GW294 := n5_; have zR := n6_; have zJ := n7_; have zP := n8_; have zL := n9_; have zQ := n10_; clear n0_ n1_ n2_ n3_ n4_ n5_ n6_ n7_ n8_ n9_ n10_; clear hb hbox hg; have zhd := zP.out; have zid := zJ.out; have zjd := zQ.out; have zkd := zL.out; have zbc : w35.cell? ⟨zH, 0, none⟩ = some (.int .i64 0) := (zc zI.out 0).trans rfl; have zcc : w35.cell? ⟨zH, 1, none⟩ = some (.string (⟨#[]⟩ : ByteArray)) := (zc zI.out 1).trans rfl; have zdc : w35.cell? ⟨zH, 2, none⟩ = some (.string (⟨#[]⟩ : ByteArray)) := (zc zI.out 2).trans rfl; have zec : w35.cell? ⟨zH, 3, none⟩ = some (.int .i64 0) := (zc zI.out 3).trans rfl; have zfc : w35.cell? ⟨zH, 4, none⟩ = some (.bool false) := (zc zI.out 4).trans rfl; have zgc := zb zI.out 0; have zhc := zb zI.out 1; have zic := zb zI.out 2; have zjc := zb zI.out 3; have zkc := zb zI.out 4; have zld := zO.out; have zmd := zK.out; have zlc : w35.cell? ⟨zF, 0, none⟩ = some (.int .i64 1) := (zc zC.out 0).trans rfl; have zmc : w35.cell? ⟨zF, 1, none⟩ = some (u286001) := (zc zC.out 1).trans rfl; have znc : w35.cell? ⟨zF, 2, none⟩ = some (.bool true) := (zc zC.out 2).trans rfl; have zoc : w35.cell? ⟨zF, 3, none⟩ = some (.string (⟨#[]⟩ : ByteArray)) := (zc zC.out 3).trans rfl; have zpc : w35.cell? ⟨zF, 4, none⟩ = some (.slice none 0 0) := (zc zC.out 4).trans rfl; have zqc := zb zC.out 0; have zrc := zb zC.out 1; have zsc := zb zC.out 2; have ztc := zb zC.out 3; have zuc := zb zC.out 4; have zvc : w35.cell? ⟨zE, 0, none⟩ = some (.int .i64 x285000_1) := (zc zD.out 0).trans rfl; have zwc : w35.cell? ⟨zE, 1, none⟩ = some (.slice none 0 0) := (zc zD.out 1).trans rfl; have zxc : w35.cell? ⟨zE, 2, none⟩ = some (.bool x285002_1) := (zc zD.out 2).trans rfl; have zyc : w35.cell? ⟨zE, 3, none⟩ = some (.string x285003_1) := (zc zD.out 3).trans rfl; have zzc : w35.cell? ⟨zE, 4, none⟩ = some (.slice none 0 0) := (zc zD.out 4).trans rfl; have zAc := zb zD.out 0; have zBc := zb zD.out 1; have zCc := zb zD.out 2; have zDc := zb zD.out 3; have zEc := zb zD.out 4; obtain ⟨Ao42, co42, eo42⟩ := Kd.R_slice zG.out; subst eo42))
            refine bodyPost_ret (results_ct rfl _ _ zE 66 #[.int .i64 1, .slice Ao42 x286001_1.length co42, .bool true, .string (⟨#[]⟩ : ByteArray), .slice none 0 0] (0, 0) _ rfl (by (with_reducible repeat (first | refine zf ?_ _ | refine zj ?_ | refine ze ?_ _)); refine zx (cs := #[.int .i64 1, .slice Ao42 x286001_1.length co42, .bool true, .string (⟨#[]⟩ : ByteArray), .slice none 0 0]) ?_ 4 _ rfl; (with_reducible repeat (first | refine zf ?_ _ | refine zj ?_ | refine ze ?_ _)); refine zx (cs := #[.int .i64 1, .slice Ao42 x286001_1.length co42, .bool true, .string x285003_1, .slice none 0 0]) ?_ 3 _ rfl; (with_reducible repeat (first | refine zf ?_ _ | refine zj ?_ | refine ze ?_ _)); refine zx (cs := #[.int .i64 1, .slice Ao42 x286001_1.length co42, .bool x285002_1, .string x285003_1, .slice none 0 0]) ?_ 2 _ rfl; (with_reducible repeat (first | refine zf ?_ _ | refine zj ?_ | refine ze ?_ _)); refine zx (cs := #[.int .i64 1, .slice none 0 0, .bool x285002_1, .string x285003_1, .slice none 0 0]) ?_ 1 _ rfl; (with_reducible repeat (first | refine zf ?_ _ | refine zj ?_ | refine ze ?_ _)); refine zx (cs := #[.int .i64 x285000_1, .slice none 0 0, .bool x285002_1, .string x285003_1, .slice none 0 0]) ?_ 0 _ rfl; (with_reducible repeat (first | refine zf ?_ _ | refine zj ?_ | refine ze ?_ _)); refine zq ?_ zJ.out _; (with_reducible repeat (first | refine zf ?_ _ | refine zj ?_ | refine ze ?_ _)); refine zq ?_ zJ.out _; (with_reducible repeat (first | refine zf ?_ _ | refine zj ?_ | refine ze ?_ _)); refine zq ?_ zJ.out _; (with_reducible repeat (first | refine zf ?_ _ | refine zj ?_ | refine ze ?_ _)); refine zq ?_ zJ.out _; (with_reducible repeat (first | refine zf ?_ _ | refine zj ?_ | refine ze ?_ _)); refine zq ?_ zJ.out _; (with_reducible repeat (first | refine zf ?_ _ | refine zj ?_ | refine ze ?_ _)); exact zD.out) Tryd.underlying66 rfl (by kernel_rfl)) rfl ?_
            exact ⟨_, _, by first | rfl | (simp [*] <;> rfl), RL (Kd.R_mono (Kd.R_far (p := ⟨zE, 4, none⟩) (Kd.R_far (p := ⟨zE, 3, none⟩) (Kd.R_far (p := ⟨zE, 2, none⟩) (Kd.R_far (p := ⟨zE, 1, none⟩) (Kd.R_far (p := ⟨zE, 0, none⟩) (Kd.R_far (p := ⟨zH, 4, none⟩) (Kd.R_far (p := ⟨zH, 3, none⟩) (Kd.R_far (p := ⟨zH, 2, none⟩) (Kd.R_far (p := ⟨zH, 1, none⟩) (Kd.R_far (p := ⟨zH, 0, none⟩) (Kd.R_types (Kd.R_mono zG.out (fun k_ hk => (⟨hk, hk.2⟩ : _ ∧ k_ ≠ zH))) zD.out (by decide)) (fun _ hk => hk.1.2) (.int .i64 t288)) (fun _ hk => hk.1.2) (.string t289)) (fun _ hk => hk.1.2) (.string t290)) (fun _ hk => hk.1.2) (.int .i64 t291)) (fun _ hk => hk.1.2) (.bool t292)) (fun _ hk => hk.2) (.int .i64 1)) (fun _ hk => hk.2) (.slice Ao42 x286001_1.length co42)) (fun _ hk => hk.2) (.bool true)) (fun _ hk => hk.2) (.string (⟨#[]⟩ : ByteArray))) (fun _ hk => hk.2) (.slice none 0 0)) (fun _ hk => trivial)), by first | exact Kd.R_nil _ _ _ _ _ | exact Kd.N_nil _ _ _ _ _ | exact Kd.V_nil _ _ _ _ _ | exact Kd.Q_nil _ _ _ _ _ | exact Kd.S_nil _ _ _ _ _, by repeat (first | (with_reducible first | exact HB.out | apply zh | apply zd | apply zi | refine zl ?_ zM.out | refine zl ?_ zN.out | refine zl ?_ zR.out) | exact HB.out)⟩
          ·rw [if_neg c18] at H
           exact absurd H (by simp)
         ·rw [if_neg c17] at H
          exact absurd H (by simp)
        ·rw [if_neg c16] at H
         exact absurd H (by simp)
   ·rw [if_neg c6] at H
    have c6b0 : decide (x6_1 ≤ (l0.length : Int)) = false := decide_eq_false c6
    clear c6
    simp only [Option.some.injEq, Prod.mk.injEq] at H
    obtain ⟨rfl, rfl, rfl, rfl, rfl, rfl⟩ := H
    have znd := zO.out
    have zod := zK.out
    have zFc : wr.cell? ⟨zF, 0, none⟩ = some (.int .i64 1) := (zc zC.out 0).trans rfl
    have zGc : wr.cell? ⟨zF, 1, none⟩ = some (u286001) := (zc zC.out 1).trans rfl
    have zHc : wr.cell? ⟨zF, 2, none⟩ = some (.bool true) := (zc zC.out 2).trans rfl
    have zIc : wr.cell? ⟨zF, 3, none⟩ = some (.string (⟨#[]⟩ : ByteArray)) := (zc zC.out 3).trans rfl
    have zJc : wr.cell? ⟨zF, 4, none⟩ = some (.slice none 0 0) := (zc zC.out 4).trans rfl
    have zKc := zb zC.out 0
    have zLc := zb zC.out 1
    have zMc := zb zC.out 2
    have zNc := zb zC.out 3
    have zOc := zb zC.out 4
    have zPc : wr.cell? ⟨zE, 0, none⟩ = some (.int .i64 x285000_1) := (zc zD.out 0).trans rfl
    have zQc : wr.cell? ⟨zE, 1, none⟩ = some (.slice none 0 0) := (zc zD.out 1).trans rfl
    have zRc : wr.cell? ⟨zE, 2, none⟩ = some (.bool x285002_1) := (zc zD.out 2).trans rfl
    have zSc : wr.cell? ⟨zE, 3, none⟩ = some (.string x285003_1) := (zc zD.out 3).trans rfl
    have zTc : wr.cell? ⟨zE, 4, none⟩ = some (.slice none 0 0) := (zc zD.out 4).trans rfl
    have zUc := zb zD.out 0
    have zVc := zb zD.out 1
    have zWc := zb zD.out 2
    have zXc := zb zD.out 3
    have zYc := zb zD.out 4
    obtain ⟨Ao46, co46, eo46⟩ := Kd.R_slice zG.out
    subst eo46
    go_wp2
    refine bodyPost_ret (results_ct rfl _ _ zE 66 #[.int .i64 1, .slice Ao46 x286001_1.length co46, .bool true, .string (⟨#[]⟩ : ByteArray), .slice none 0 0] (0, 0) _ rfl (bfin (by (repeat (first | (with_reducible first | refine zf ?_ _ | refine zj ?_ | refine ze ?_ _) | apply zA)); exact zD.out) (by rfl)) Tryd.underlying66 rfl (by kernel_rfl)) rfl ?_
    exact ⟨_, _, by first | rfl | (simp [*] <;> rfl), RL (Kd.R_mono (Kd.R_far (p := ⟨zE, 4, none⟩) (Kd.R_far (p := ⟨zE, 3, none⟩) (Kd.R_far (p := ⟨zE, 2, none⟩) (Kd.R_far (p := ⟨zE, 1, none⟩) (Kd.R_far (p := ⟨zE, 0, none⟩) (Kd.R_types zG.out zD.out (by decide)) (fun _ hk => hk.2) (.int .i64 1)) (fun _ hk => hk.2) (.slice Ao46 x286001_1.length co46)) (fun _ hk => hk.2) (.bool true)) (fun _ hk => hk.2) (.string (⟨#[]⟩ : ByteArray))) (fun _ hk => hk.2) (.slice none 0 0)) (fun _ hk => trivial)), by first | exact Kd.R_nil _ _ _ _ _ | exact Kd.N_nil _ _ _ _ _ | exact Kd.V_nil _ _ _ _ _ | exact Kd.Q_nil _ _ _ _ _ | exact Kd.S_nil _ _ _ _ _, by repeat (first | (with_reducible first | exact HB.out | apply zh | apply zd | apply zi | refine zl ?_ zM.out | refine zl ?_ zN.out) | exact HB.out)⟩

def impl_numbers.l0 : Nat → List Int → List ByteArray → Int → Int → Option (List Int × Bool)
 | 0, _, _, _, _ => none
 | k + 1, x4, x9, x10, x11 => if x11 < x10 then (if 0 ≤ x11 then (if x11 < (x9.length : Int) then ((impl_number.f k (rdOf ByteArray.empty x9 x11)).bind fun bt299 => (if bt299.2 = true then (if x4.length < 17592186044416 then (impl_numbers.l0 k (x4 ++ [bt299.1]) x9 x10 (wrap64 (x11 + 1))) else (none)) else (some (([] : List Int), false)))) else (none)) else (none)) else (some (x4, decide ((x4.length : Int) ≤ 2000)))
def impl_numbers.f (k : Nat) (l0 : List ByteArray) : Option (List Int × Bool) := impl_numbers.l0 k ([] : List Int) l0 (l0.length : Int) 0
theorem impl_numbers.mono_l : ∀ k, (∀ y0 y1 y2 y3, LeO (impl_numbers.l0 k y0 y1 y2 y3) (impl_numbers.l0 (k + 1) y0 y1 y2 y3))
 | 0 => fun _ _ _ _ r h => by simp [impl_numbers.l0] at h
 | k + 1 => by
  have ih0 := impl_numbers.mono_l k
  ·intro y0 y1 y2 y3
   unfold impl_numbers.l0
   repeat' first
   | (with_reducible exact ih0 _ _ _ _)
   | (with_reducible exact impl_number.mono _ _)
   | (with_reducible exact LeO.refl _)
   | (with_reducible exact LeO.none _)
   | (with_reducible refine LeO.ite ?_ ?_)
   | (with_reducible refine LeO.bind ?_ (fun _ => ?_))
   | exact ih0 _ _ _ _
   | exact impl_number.mono _ _
   | exact LeO.none _
   | refine LeO.ite ?_ ?_
   | refine LeO.bind ?_ (fun _ => ?_)
theorem impl_numbers.mono : ∀ a0 k, LeO (impl_numbers.f k a0) (impl_numbers.f (k + 1) a0) := by
 intro a0 k
 have ih0 := impl_numbers.mono_l k
 unfold impl_numbers.f
 repeat' first
   | (with_reducible exact ih0 _ _ _ _)
   | (with_reducible exact impl_number.mono _ _)
   | (with_reducible exact LeO.refl _)
   | (with_reducible exact LeO.none _)
   | (with_reducible refine LeO.ite ?_ ?_)
   | (with_reducible refine LeO.bind ?_ (fun _ => ?_))
   | exact ih0 _ _ _ _
   | exact impl_number.mono _ _
   | exact LeO.none _
   | refine LeO.ite ?_ ?_
   | refine LeO.bind ?_ (fun _ => ?_)
set_option maxHeartbeats 8000000 in
set_option maxRecDepth 100000 in
theorem impl_numbers.calls (k : Nat) (A0 : Option Addr) (c0 : Nat) (l0 : List ByteArray) (r1 : List Int) (r2 : Bool) (w : World) (hr0 : Kd.C Kd.string w A0 l0.length l0) (hc0 : l0.length ≤ c0) (h : impl_numbers.f k l0 = some (r1, r2)) :
  Calls Tryd.prog 143 #[.slice A0 l0.length c0] w fun e w' => ∃ v0_ : Value, e = .returned (.tuple #[v0_, .bool r2]) ∧ Kd.R (Kd.int .i64) 2 w' w.heap.size (fun _ => True) v0_ r1 ∧ Below w.heap.size w w' := by
 have HR0 := Aside0.mk hr0
 have HC0 := Aside0.mk hc0
 clear hr0 hc0
 have HB := Aside0.mk (Below.refl w.heap.size w)
 have H : (impl_numbers.l0 k ([] : List Int) l0 (l0.length : Int) 0) = some (r1, r2) := h
 clear h
 have H' := Aside0.mk H
 clear H
 go_enter Tryd.func143, Tryd.ntmps143
 go_wp2
 go_loopg [4, 11] k (fun kq v4 v11 w' => ∃ (x4_1 : List Int) (x11_1 : Int), v11 = .int .i64 x11_1 ∧ Aside0 (impl_numbers.l0 kq x4_1 l0 (l0.length : Int) x11_1 = some (r1, r2)) ∧ Aside0 (kq ≤ k) ∧ Aside0 (Kd.R (Kd.int .i64) 2 w' w.heap.size (fun _ => True) v4 x4_1) ∧ Aside0 (Below w.heap.size w w'))
 case atStart => exact ⟨(([] : List Int)), (0), (by first | rfl | (simp [*]; done)), H', ⟨Nat.le_refl _⟩, ⟨by first | exact Kd.R_nil _ _ _ _ _ | exact Kd.N_nil _ _ _ _ _ | exact Kd.V_nil _ _ _ _ _ | exact Kd.Q_nil _ _ _ _ _ | exact Kd.S_nil _ _ _ _ _⟩, ⟨by repeat (first | (with_reducible first | exact HB.out | apply zh | apply zd | apply zi) | exact HB.out)⟩⟩
 case round =>
  clear H'
  try clear c1
  obtain ⟨x4_1, x11_1, rfl, HA, HK1, zC, HB⟩ := hrel
  cases gk with
  | zero => exact absurd HA.out (by simp [impl_numbers.l0])
  | succ k1 =>
   have H := HA.out
   clear HA
   simp only [impl_numbers.l0] at H
   by_cases c2 : x11_1 < (l0.length : Int)
   ·rw [if_pos c2] at H
    have c2b0 : decide (x11_1 < (l0.length : Int)) = true := decide_eq_true c2
    clear c2
    by_cases c3 : 0 ≤ x11_1
    ·rw [if_pos c3] at H
     have c3b0 : decide (0 ≤ x11_1) = true := decide_eq_true c3
     clear c3
     by_cases c4 : x11_1 < (l0.length : Int)
     ·rw [if_pos c4] at H
      have c4b0 : decide (x11_1 < (l0.length : Int)) = true := decide_eq_true c4
      clear c4
      replace H := Option.bind_eq_some_iff.mp H
      obtain ⟨⟨t299, t300⟩, A50, H⟩ := H
      try dsimp only at H
      have A5 := Aside0.mk A50
      clear A50
      by_cases c6 : t300 = true
      ·subst c6
       rw [if_pos rfl] at H
       by_cases c7 : x4_1.length < 17592186044416
       ·rw [if_pos c7] at H
        have LMc7 := Aside0.mk c7
        clear c7
        obtain ⟨y301, hy301⟩ : ∃ y_ : List Int, y_ = (x4_1 ++ [t299]) := ⟨_, rfl⟩
        replace H : (impl_numbers.l0 k1 y301 l0 (l0.length : Int) (wrap64 (x11_1 + 1))) = some (r1, r2) := by first | (rw [hy301]; with_reducible exact H) | (have H2_ := (Option.bind_some _ _).symm.trans H; rw [hy301]; with_reducible exact H2_) | (have H2_ := (Option.bind_some _ _).symm.trans H; with_reducible exact H2_) | with_reducible exact H | (rw [hy301]; exact H) | exact H
        have Ny301 := Aside0.mk hy301
        clear hy301
        have H' := Aside0.mk H
        clear H
        have p298 : 0 ≤ (x11_1 : Int) := of_decide_eq_true (by with_reducible assumption)
        have q298 : x11_1 < (l0.length : Int) := of_decide_eq_true (by with_reducible assumption)
        obtain ⟨ad298, e298, hx298_0⟩ := Kd.at_string HR0.out x11_1 p298 q298
        cases e298
        replace hx298_0 := zk HB.out hx298_0
        replace p298 := eq_true p298
        replace q298 := eq_true q298
        go_wp2_with (first | ((with_reducible refine zo (f := 162) rfl ?_); refine zy (some 17) rfl rfl Tryd.func162 (by kernel_rfl) rfl #[.string (rdOf ByteArray.empty l0 x11_1)] rfl (by (try simp only [List.map_toArray, List.map_cons, List.map_nil]); first | done | rfl) ?_; (with_reducible refine (impl_number.calls k1 (rdOf ByteArray.empty l0 x11_1) t299 true _ A5.out).mono ?_); rintro e w8 ⟨rfl, hb⟩; refine ⟨_, rfl, ?_⟩; have n0_ := Aside0.mk (Kd.R_below (RL zC.out) hb); have n1_ := Aside0.mk (zm (by exact bl HB.out) hb); clear zC; clear HB; have zC := n0_; have HB := n1_; clear n0_ n1_; (try clear hb); (try clear hb2); (try clear hk); (try clear hi)) | ((with_reducible refine gate_builtin (b := .append) (xs := #[.tmp 22, .tmp 24]) rfl ?_); at_builtin; refine Kd.R_append (Kd.int .i64) (w0 := w) w.heap.size rfl (.tmp 22) (.tmp 24) 64 2 (.int .i64 0) 8 rfl Tryd.underlying64 info2 rfl (by decide) (by omega) u4 x4_1 t299 [.int .i64 t299] (fun _ => True) (fun _ => False) rfl rfl ?aP (fun _ hk => hk.elim) ?aF ?aO ?aB ?aS ?aL ?_; (case aP => exact rfl); (case aB => exact (by exact bl HB.out)); (case aF => exact (fun _ _ => trivial)); (case aO => exact (RL zC.out)); (case aS => exact (zn (by exact bl HB.out))); (case aL => have := LMc7.out; omega); intro v302 w9 ho hb hg hat; rw [← Ny301.out] at ho; have n0_ := Aside0.mk (hb); have n1_ := Aside0.mk (ho); clear HB; clear zC; have HB := n0_; have zD := n1_; clear n0_ n1_; clear ho hb hg hat))
        go_roundg k1
        case measure => have := HK1.out; omega
        case rel => exact ⟨(y301), (wrap64 (x11_1 + 1)), (by first | rfl | (simp [*]; done)), H', ⟨by have := HK1.out; omega⟩, ⟨RL zD.out⟩, ⟨by repeat (first | (with_reducible first | exact HB.out | apply zh | apply zd | apply zi) | exact HB.out)⟩⟩
       ·rw [if_neg c7] at H
        exact absurd H (by simp)
      ·replace c6 := Bool.eq_false_iff.mpr c6
       subst c6
       rw [if_neg (show ¬ (false = true) by decide)] at H
       simp only [Option.some.injEq, Prod.mk.injEq] at H
       obtain ⟨rfl, rfl⟩ := H
       have p298 : 0 ≤ (x11_1 : Int) := of_decide_eq_true (by with_reducible assumption)
       have q298 : x11_1 < (l0.length : Int) := of_decide_eq_true (by with_reducible assumption)
       obtain ⟨ad298, e298, hx298_0⟩ := Kd.at_string HR0.out x11_1 p298 q298
       cases e298
       replace hx298_0 := zk HB.out hx298_0
       replace p298 := eq_true p298
       replace q298 := eq_true q298
       go_wp2_with (first | ((with_reducible refine zo (f := 162) rfl ?_); refine zy (some 17) rfl rfl Tryd.func162 (by kernel_rfl) rfl #[.string (rdOf ByteArray.empty l0 x11_1)] rfl (by (try simp only [List.map_toArray, List.map_cons, List.map_nil]); first | done | rfl) ?_; (with_reducible refine (impl_number.calls k1 (rdOf ByteArray.empty l0 x11_1) t299 false _ A5.out).mono ?_); rintro e w10 ⟨rfl, hb⟩; refine ⟨_, rfl, ?_⟩; have n0_ := Aside0.mk (Kd.R_below (RL zC.out) hb); have n1_ := Aside0.mk (zm (by exact bl HB.out) hb); clear zC; clear HB; have zC := n0_; have HB := n1_; clear n0_ n1_; (try clear hb); (try clear hb2); (try clear hk); (try clear hi)))
       go_ret2
       exact ⟨_, by first | rfl | (simp [*] <;> rfl), by first | exact Kd.R_nil _ _ _ _ _ | exact Kd.N_nil _ _ _ _ _ | exact Kd.V_nil _ _ _ _ _ | exact Kd.Q_nil _ _ _ _ _ | exact Kd.S_nil _ _ _ _ _, by repeat (first | (with_reducible first | exact HB.out | apply zh | apply zd | apply zi) | exact HB.out)⟩
     ·rw [if_neg c4] at H
      exact absurd H (by simp)
    ·rw [if_neg c3] at H
     exact absurd H (by simp)
   ·rw [if_neg c2] at H
    have c2b0 : decide (x11_1 < (l0.length : Int)) = false := decide_eq_false c2
    clear c2
    simp only [Option.some.injEq, Prod.mk.injEq] at H
    obtain ⟨rfl, rfl⟩ := H
    obtain ⟨Ao11, co11, eo11⟩ := Kd.R_slice zC.out
    subst eo11
    go_wp2
    go_ret2
    exact ⟨_, by first | rfl | (simp [*] <;> rfl), RL zC.out, by repeat (first | (with_reducible first | exact HB.out | apply zh | apply zd | apply zi) | exact HB.out)⟩

end Go.Proofs.YtfiojiokmkiflaaDoor.GFnExactParseLine
