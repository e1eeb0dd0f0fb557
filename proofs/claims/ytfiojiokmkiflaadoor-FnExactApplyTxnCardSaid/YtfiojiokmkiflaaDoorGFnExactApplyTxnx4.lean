/- Written by give.py, a program of this session, that runs the kit's print and lays contracts proved by hand beside it. -/
import Derived.Test.YtfiojiokmkiflaaDoorGFnExactApplyTxnx0
import Derived.Test.YtfiojiokmkiflaaDoorHStep
import Derived.Test.YtfiojiokmkiflaaDoorGFnExactApplyTxnx1
namespace Go.Proofs.YtfiojiokmkiflaaDoor.GFnExactApplyTxn
open Go.Proofs.YtfiojiokmkiflaaDoorH (pu po ta pt ps p0 p1)
open Go.RowKit Go.Proofs.YtfiojiokmkiflaaDoorW.PrintWords Go.Proofs.YtfiojiokmkiflaaDoorW.PrintLast Go.Proofs.YtfiojiokmkiflaaDoorW.PrintMore
attribute [local go_sem] max2_int min2_int max_two min_two max_three min_three max_four min_four
attribute [local go_sem high] Go.Proofs.YtfiojiokmkiflaaDoorH.str_leq Go.Proofs.YtfiojiokmkiflaaDoorH.str_geq Go.Proofs.YtfiojiokmkiflaaDoorH.str_gtr   -- for this text's walks alone
set_option linter.unusedVariables false
set_option linter.unusedSimpArgs false

attribute [local go_sem high] eqA77
def strings_Split.f (a0 : ByteArray) (a1 : ByteArray) : Option (List ByteArray) := if a0.size < 4294967281 ∧ 1 ≤ a1.size ∧ Go.Lib.countB a0 a1 ≤ 1000000 then some (Go.Lib.splitB a1 0 (Go.Lib.countB a0 a1) a0) else none
theorem split_len (sep : ByteArray) (h1 : 1 ≤ sep.size) : ∀ (n : Nat) (s : ByteArray), s.size ≤ n → (Go.Lib.splitB sep 0 (Go.Lib.countB s sep) s).length = Go.Lib.countB s sep + 1 := by
 intro n
 induction n with
 | zero =>
  intro s hs
  rcases Go.Lib.indexB_cases s sep with hix | ⟨i, hix, hroom⟩
  ·rw [Go.Lib.countB_miss s sep hix]; rfl
  ·omega
 | succ n ih =>
  intro s hs
  rcases Go.Lib.indexB_cases s sep with hix | ⟨i, hix, hroom⟩
  ·rw [Go.Lib.countB_miss s sep hix]; rfl
  ·rw [Go.Lib.countB_hit s sep i h1 hix, Nat.add_comm 1, Go.Lib.splitB_hit sep 0 _ s i hix, List.length_cons, ih _ (by simp only [ByteArray.size_extract]; omega)]
set_option maxRecDepth 100000 in
theorem strings_Split.calls (a0 : ByteArray) (a1 : ByteArray) (r : List ByteArray) (w : World) (h : strings_Split.f a0 a1 = some r) (hGMAX_ : Go.Proofs.YtfiojiokmkiflaaDoorH.GFMAX w) :
  Calls Tryd.prog 77 #[.string a0, .string a1] w fun e w' => ∃ v0_ : Value, e = .returned (v0_) ∧ Kd.R Kd.string 9 w' w.heap.size (fun _ => True) v0_ r ∧ Below w.heap.size w w' := by
 unfold strings_Split.f at h
 by_cases hc : a0.size < 4294967281 ∧ 1 ≤ a1.size ∧ Go.Lib.countB a0 a1 ≤ 1000000
 ·rw [if_pos hc] at h
  obtain rfl := Option.some.inj h
  obtain ⟨m, hm⟩ := hGMAX_
  have hl := split_len a1 hc.2.1 a0.size a0 (Nat.le_refl _)
  refine (Go.Proofs.Tryd.strings_Split a0 a1 m w hc.1 hm hc.2.1).mono ?_
  rintro e w' ⟨rfl, rfl⟩
  refine ⟨_, rfl, ?_, zh (Below.refl _ _) _⟩
  rw [← hl]
  exact Go.Proofs.YtfiojiokmkiflaaDoorH.R_of_arr Value.string (fun _ => rfl) (ok := fun _ => True) (blk_new w _) (Nat.le_refl _) trivial (by omega) (by omega)
 ·rw [if_neg hc] at h
  cases h

def stringslite_HasPrefix.f (a0 : ByteArray) (a1 : ByteArray) : Option (Bool) := if (a0.size : Int) ≥ (a1.size : Int) then (if 0 ≤ (a1.size : Int) then (if (a1.size : Int) ≤ (a0.size : Int) then (some ((a0.extract 0 ((a1.size : Int) : Int).toNat).toList == a1.toList)) else (none)) else (none)) else (some false)
set_option maxHeartbeats 8000000 in
set_option maxRecDepth 100000 in
theorem stringslite_HasPrefix.calls (a0 : ByteArray) (a1 : ByteArray) (r : Bool) (w : World) (h : stringslite_HasPrefix.f a0 a1 = some r) :
  Calls Tryd.prog 189 #[.string a0, .string a1] w fun e w' => e = .returned (.bool r) ∧ Drawn0 w w' := by
 have H : (if (a0.size : Int) ≥ (a1.size : Int) then (if 0 ≤ (a1.size : Int) then (if (a1.size : Int) ≤ (a0.size : Int) then (some ((a0.extract 0 ((a1.size : Int) : Int).toNat).toList == a1.toList)) else (none)) else (none)) else (some false)) = some r := h
 clear h
 by_cases c3 : (a0.size : Int) ≥ (a1.size : Int)
 ·rw [if_pos c3] at H
  have c3b0 : decide ((a1.size : Int) ≤ (a0.size : Int)) = true := decide_eq_true c3
  have c3b1 : decide (a1.size ≤ a0.size) = true := decide_eq_true (Int.ofNat_le.mp c3)
  clear c3
  by_cases c4 : 0 ≤ (a1.size : Int)
  ·rw [if_pos c4] at H
   have c4b0 := eq_true c4
   have c4b1 : decide (0 ≤ (a1.size : Int)) = true := decide_eq_true c4
   clear c4
   by_cases c5 : (a1.size : Int) ≤ (a0.size : Int)
   ·rw [if_pos c5] at H
    have c5b0 := eq_true c5
    have c5b1 : decide ((a1.size : Int) ≤ (a0.size : Int)) = true := decide_eq_true c5
    clear c5
    obtain rfl := Option.some.inj H
    go_enter Tryd.func189, Tryd.ntmps189
    go_wp2
    go_ret
    exact ⟨by first | rfl | (simp; done) | (simp [*]; done), by repeat (first | exact Drawn0.refl _ | apply Drawn0.step)⟩
   ·rw [if_neg c5] at H
    exact absurd H (by simp)
  ·rw [if_neg c4] at H
   exact absurd H (by simp)
 ·rw [if_neg c3] at H
  have c3b0 : decide ((a1.size : Int) ≤ (a0.size : Int)) = false := decide_eq_false c3
  have c3b1 : decide (a1.size ≤ a0.size) = false := decide_eq_false (fun h => c3 (Int.ofNat_le.mpr h))
  clear c3
  obtain rfl := Option.some.inj H
  go_enter Tryd.func189, Tryd.ntmps189
  go_wp2
  go_ret
  exact ⟨by first | rfl | (simp; done) | (simp [*]; done), by repeat (first | exact Drawn0.refl _ | apply Drawn0.step)⟩

def stringslite_CutPrefix.f (a0 : ByteArray) (a1 : ByteArray) : Option (ByteArray × Bool) := (stringslite_HasPrefix.f a0 a1).bind fun t243 => (if t243 = true then (if 0 ≤ (a1.size : Int) then (if (a1.size : Int) ≤ (a0.size : Int) then (some (a0.extract ((a1.size : Int) : Int).toNat a0.size, true)) else (none)) else (none)) else (some (a0, false)))
set_option maxHeartbeats 8000000 in
set_option maxRecDepth 100000 in
theorem stringslite_CutPrefix.calls (a0 : ByteArray) (a1 : ByteArray) (r1 : ByteArray) (r2 : Bool) (w : World) (h : stringslite_CutPrefix.f a0 a1 = some (r1, r2)) :
  Calls Tryd.prog 169 #[.string a0, .string a1] w fun e w' => e = .returned (.tuple #[.string r1, .bool r2]) ∧ Drawn0 w w' := by
 have H : ((stringslite_HasPrefix.f a0 a1).bind fun t243 => (if t243 = true then (if 0 ≤ (a1.size : Int) then (if (a1.size : Int) ≤ (a0.size : Int) then (some (a0.extract ((a1.size : Int) : Int).toNat a0.size, true)) else (none)) else (none)) else (some (a0, false)))) = some (r1, r2) := h
 clear h
 replace H := Option.bind_eq_some_iff.mp H
 obtain ⟨t243, A30, H⟩ := H
 try dsimp only at H
 have A3 := Aside0.mk A30
 clear A30
 by_cases c4 : t243 = true
 ·subst c4
  rw [if_pos rfl] at H
  by_cases c5 : 0 ≤ (a1.size : Int)
  ·rw [if_pos c5] at H
   have c5b0 := eq_true c5
   have c5b1 : decide (0 ≤ (a1.size : Int)) = true := decide_eq_true c5
   clear c5
   by_cases c6 : (a1.size : Int) ≤ (a0.size : Int)
   ·rw [if_pos c6] at H
    have c6b0 := eq_true c6
    have c6b1 : decide ((a1.size : Int) ≤ (a0.size : Int)) = true := decide_eq_true c6
    clear c6
    simp only [Option.some.injEq, Prod.mk.injEq] at H
    obtain ⟨rfl, rfl⟩ := H
    go_enter Tryd.func169, Tryd.ntmps169
    go_wp2_with (first | ((with_reducible refine zr (f := 189) rfl ?_); refine zz (some 8) rfl rfl Tryd.func189 (by kernel_rfl) rfl #[.string a0, .string a1] rfl (by (try simp only [List.map_toArray, List.map_cons, List.map_nil]); first | done | rfl) ?_; (with_reducible refine (stringslite_HasPrefix.calls a0 a1 true _ A3.out).mono ?_); rintro e w' ⟨rfl, ⟨nd, rfl⟩⟩; refine ⟨_, rfl, ?_⟩))
    go_ret2
    exact ⟨by first | rfl | (simp; done) | (simp [*]; done), by repeat (first | exact Drawn0.refl _ | apply Drawn0.step)⟩
   ·rw [if_neg c6] at H
    exact absurd H (by simp)
  ·rw [if_neg c5] at H
   exact absurd H (by simp)
 ·replace c4 := Bool.eq_false_iff.mpr c4
  subst c4
  rw [if_neg (show ¬ (false = true) by decide)] at H
  simp only [Option.some.injEq, Prod.mk.injEq] at H
  obtain ⟨rfl, rfl⟩ := H
  go_enter Tryd.func169, Tryd.ntmps169
  go_wp2_with (first | ((with_reducible refine zr (f := 189) rfl ?_); refine zz (some 8) rfl rfl Tryd.func189 (by kernel_rfl) rfl #[.string a0, .string a1] rfl (by (try simp only [List.map_toArray, List.map_cons, List.map_nil]); first | done | rfl) ?_; (with_reducible refine (stringslite_HasPrefix.calls a0 a1 false _ A3.out).mono ?_); rintro e w' ⟨rfl, ⟨nd, rfl⟩⟩; refine ⟨_, rfl, ?_⟩))
  go_ret2
  exact ⟨by first | rfl | (simp; done) | (simp [*]; done), by repeat (first | exact Drawn0.refl _ | apply Drawn0.step)⟩

def strings_CutPrefix.f (a0 : ByteArray) (a1 : ByteArray) : Option (ByteArray × Bool) := (stringslite_CutPrefix.f a0 a1).bind fun bt244 => (some (bt244.1, bt244.2))
set_option maxHeartbeats 8000000 in
set_option maxRecDepth 100000 in
theorem strings_CutPrefix.calls (a0 : ByteArray) (a1 : ByteArray) (r1 : ByteArray) (r2 : Bool) (w : World) (h : strings_CutPrefix.f a0 a1 = some (r1, r2)) :
  Calls Tryd.prog 151 #[.string a0, .string a1] w fun e w' => e = .returned (.tuple #[.string r1, .bool r2]) ∧ Drawn0 w w' := by
 have H : ((stringslite_CutPrefix.f a0 a1).bind fun bt244 => (some (bt244.1, bt244.2))) = some (r1, r2) := h
 clear h
 replace H := Option.bind_eq_some_iff.mp H
 obtain ⟨⟨t244, t245⟩, A30, H⟩ := H
 try dsimp only at H
 have A3 := Aside0.mk A30
 clear A30
 simp only [Option.some.injEq, Prod.mk.injEq] at H
 obtain ⟨rfl, rfl⟩ := H
 go_enter Tryd.func151, Tryd.ntmps151
 go_wp2_with (first | ((with_reducible refine zr (f := 169) rfl ?_); refine zz (some 8) rfl rfl Tryd.func169 (by kernel_rfl) rfl #[.string a0, .string a1] rfl (by (try simp only [List.map_toArray, List.map_cons, List.map_nil]); first | done | rfl) ?_; (with_reducible refine (stringslite_CutPrefix.calls a0 a1 t244 t245 _ A3.out).mono ?_); rintro e w' ⟨rfl, ⟨nd, rfl⟩⟩; refine ⟨_, rfl, ?_⟩))
 go_ret2
 exact ⟨by first | rfl | (simp; done) | (simp [*]; done), by repeat (first | exact Drawn0.refl _ | apply Drawn0.step)⟩

def impl_validName.l0 : Nat → ByteArray → Int → Int → Option (Bool)
 | 0, _, _, _ => none
 | k + 1, x0, x5, x6 => if x6 < x5 then (if 0 ≤ x6 then (if x6 < (x0.size : Int) then (if (bt x0 x6) < 97 then (if (bt x0 x6) < 48 then (some false) else (if (bt x0 x6) > 57 then (some false) else (impl_validName.l0 k x0 x5 (wrap64 (x6 + 1))))) else (if (bt x0 x6) > 122 then (if (bt x0 x6) < 48 then (some false) else (if (bt x0 x6) > 57 then (some false) else (impl_validName.l0 k x0 x5 (wrap64 (x6 + 1))))) else (impl_validName.l0 k x0 x5 (wrap64 (x6 + 1))))) else (none)) else (none)) else (if (x0.size : Int) ≥ 1 then (some (decide ((x0.size : Int) ≤ 16))) else (some false))
def impl_validName.f (k : Nat) (a0 : ByteArray) : Option (Bool) := impl_validName.l0 k a0 (a0.size : Int) 0
theorem impl_validName.mono_l : ∀ k, (∀ y0 y1 y2, LeO (impl_validName.l0 k y0 y1 y2) (impl_validName.l0 (k + 1) y0 y1 y2))
 | 0 => fun _ _ _ r h => by simp [impl_validName.l0] at h
 | k + 1 => by
  have ih0 := impl_validName.mono_l k
  ·intro y0 y1 y2
   unfold impl_validName.l0
   repeat' first
   | (with_reducible exact ih0 _ _ _)
   | (with_reducible exact LeO.refl _)
   | (with_reducible exact LeO.none _)
   | (with_reducible refine LeO.ite ?_ ?_)
   | (with_reducible refine LeO.bind ?_ (fun _ => ?_))
   | exact ih0 _ _ _
   | exact LeO.none _
   | refine LeO.ite ?_ ?_
   | refine LeO.bind ?_ (fun _ => ?_)
theorem impl_validName.mono : ∀ a0 k, LeO (impl_validName.f k a0) (impl_validName.f (k + 1) a0) := by
 intro a0 k
 have ih0 := impl_validName.mono_l k
 unfold impl_validName.f
 repeat' first
   | (with_reducible exact ih0 _ _ _)
   | (with_reducible exact LeO.refl _)
   | (with_reducible exact LeO.none _)
   | (with_reducible refine LeO.ite ?_ ?_)
   | (with_reducible refine LeO.bind ?_ (fun _ => ?_))
   | exact ih0 _ _ _
   | exact LeO.none _
   | refine LeO.ite ?_ ?_
   | refine LeO.bind ?_ (fun _ => ?_)
set_option maxHeartbeats 8000000 in
set_option maxRecDepth 100000 in
theorem impl_validName.calls (k : Nat) (a0 : ByteArray) (r : Bool) (w : World) (h : impl_validName.f k a0 = some r) :
  Calls Tryd.prog 152 #[.string a0] w fun e w' => e = .returned (.bool r) ∧ Drawn0 w w' := by
 have H : (impl_validName.l0 k a0 (a0.size : Int) 0) = some r := h
 clear h
 have H' := Aside0.mk H
 clear H
 go_enter Tryd.func152, Tryd.ntmps152
 go_wp2
 go_loopg [6] k (fun kq v6 w' => ∃ (x6_1 : Int), v6 = .int .i64 x6_1 ∧ Aside0 (impl_validName.l0 kq a0 (a0.size : Int) x6_1 = some r) ∧ Aside0 (kq ≤ k) ∧ Drawn0 w w')
 case atStart => exact ⟨(0), (by first | rfl | (simp [*]; done)), H', ⟨Nat.le_refl _⟩, by repeat (first | exact Drawn0.refl _ | apply Drawn0.step)⟩
 case round =>
  clear H'
  try clear c1
  obtain ⟨x6_1, rfl, HA, HK1, ⟨m1, rfl⟩⟩ := hrel
  cases gk with
  | zero => exact absurd HA.out (by simp [impl_validName.l0])
  | succ k1 =>
   have H := HA.out
   clear HA
   simp only [impl_validName.l0] at H
   by_cases c2 : x6_1 < (a0.size : Int)
   ·rw [if_pos c2] at H
    have c2b0 : decide (x6_1 < (a0.size : Int)) = true := decide_eq_true c2
    clear c2
    by_cases c3 : 0 ≤ x6_1
    ·rw [if_pos c3] at H
     have c3b0 : decide (0 ≤ x6_1) = true := decide_eq_true c3
     clear c3
     by_cases c4 : x6_1 < (a0.size : Int)
     ·rw [if_pos c4] at H
      have c4b0 : decide (x6_1 < (a0.size : Int)) = true := decide_eq_true c4
      clear c4
      by_cases c6 : (bt a0 x6_1) < 97
      ·rw [if_pos c6] at H
       have c6b0 : decide ((bt a0 x6_1) < 97) = true := decide_eq_true c6
       clear c6
       by_cases c8 : (bt a0 x6_1) < 48
       ·rw [if_pos c8] at H
        have c8b0 : decide ((bt a0 x6_1) < 48) = true := decide_eq_true c8
        clear c8
        obtain rfl := Option.some.inj H
        have p5 : 0 ≤ (x6_1 : Int) := of_decide_eq_true (by with_reducible assumption)
        have q5 : x6_1 < (a0.size : Int) := of_decide_eq_true (by with_reducible assumption)
        have hx5 := bt_at a0 x6_1
        replace p5 := eq_true p5
        replace q5 := eq_true q5
        have p7 : 0 ≤ (x6_1 : Int) := of_decide_eq_true (by with_reducible assumption)
        have q7 : x6_1 < (a0.size : Int) := of_decide_eq_true (by with_reducible assumption)
        have hx7 := bt_at a0 x6_1
        replace p7 := eq_true p7
        replace q7 := eq_true q7
        go_wp2
        go_ret
        exact ⟨by first | rfl | (simp; done) | (simp [*]; done), by repeat (first | exact Drawn0.refl _ | apply Drawn0.step)⟩
       ·rw [if_neg c8] at H
        have c8b0 : decide ((bt a0 x6_1) < 48) = false := decide_eq_false c8
        clear c8
        by_cases c10 : (bt a0 x6_1) > 57
        ·rw [if_pos c10] at H
         have c10b0 : decide (57 < (bt a0 x6_1)) = true := decide_eq_true c10
         clear c10
         obtain rfl := Option.some.inj H
         have p5 : 0 ≤ (x6_1 : Int) := of_decide_eq_true (by with_reducible assumption)
         have q5 : x6_1 < (a0.size : Int) := of_decide_eq_true (by with_reducible assumption)
         have hx5 := bt_at a0 x6_1
         replace p5 := eq_true p5
         replace q5 := eq_true q5
         have p7 : 0 ≤ (x6_1 : Int) := of_decide_eq_true (by with_reducible assumption)
         have q7 : x6_1 < (a0.size : Int) := of_decide_eq_true (by with_reducible assumption)
         have hx7 := bt_at a0 x6_1
         replace p7 := eq_true p7
         replace q7 := eq_true q7
         have p9 : 0 ≤ (x6_1 : Int) := of_decide_eq_true (by with_reducible assumption)
         have q9 : x6_1 < (a0.size : Int) := of_decide_eq_true (by with_reducible assumption)
         have hx9 := bt_at a0 x6_1
         replace p9 := eq_true p9
         replace q9 := eq_true q9
         go_wp2
         go_ret
         exact ⟨by first | rfl | (simp; done) | (simp [*]; done), by repeat (first | exact Drawn0.refl _ | apply Drawn0.step)⟩
        ·rw [if_neg c10] at H
         have c10b0 : decide (57 < (bt a0 x6_1)) = false := decide_eq_false c10
         clear c10
         have H' := Aside0.mk H
         clear H
         have p5 : 0 ≤ (x6_1 : Int) := of_decide_eq_true (by with_reducible assumption)
         have q5 : x6_1 < (a0.size : Int) := of_decide_eq_true (by with_reducible assumption)
         have hx5 := bt_at a0 x6_1
         replace p5 := eq_true p5
         replace q5 := eq_true q5
         have p7 : 0 ≤ (x6_1 : Int) := of_decide_eq_true (by with_reducible assumption)
         have q7 : x6_1 < (a0.size : Int) := of_decide_eq_true (by with_reducible assumption)
         have hx7 := bt_at a0 x6_1
         replace p7 := eq_true p7
         replace q7 := eq_true q7
         have p9 : 0 ≤ (x6_1 : Int) := of_decide_eq_true (by with_reducible assumption)
         have q9 : x6_1 < (a0.size : Int) := of_decide_eq_true (by with_reducible assumption)
         have hx9 := bt_at a0 x6_1
         replace p9 := eq_true p9
         replace q9 := eq_true q9
         go_wp2
         go_roundg k1
         case measure => have := HK1.out; omega
         case rel => exact ⟨(wrap64 (x6_1 + 1)), (by first | rfl | (simp [*]; done)), H', ⟨by have := HK1.out; omega⟩, by repeat (first | exact Drawn0.refl _ | apply Drawn0.step)⟩
      ·rw [if_neg c6] at H
       have c6b0 : decide ((bt a0 x6_1) < 97) = false := decide_eq_false c6
       clear c6
       by_cases c12 : (bt a0 x6_1) > 122
       ·rw [if_pos c12] at H
        have c12b0 : decide (122 < (bt a0 x6_1)) = true := decide_eq_true c12
        clear c12
        by_cases c14 : (bt a0 x6_1) < 48
        ·rw [if_pos c14] at H
         have c14b0 : decide ((bt a0 x6_1) < 48) = true := decide_eq_true c14
         clear c14
         obtain rfl := Option.some.inj H
         have p5 : 0 ≤ (x6_1 : Int) := of_decide_eq_true (by with_reducible assumption)
         have q5 : x6_1 < (a0.size : Int) := of_decide_eq_true (by with_reducible assumption)
         have hx5 := bt_at a0 x6_1
         replace p5 := eq_true p5
         replace q5 := eq_true q5
         have p11 : 0 ≤ (x6_1 : Int) := of_decide_eq_true (by with_reducible assumption)
         have q11 : x6_1 < (a0.size : Int) := of_decide_eq_true (by with_reducible assumption)
         have hx11 := bt_at a0 x6_1
         replace p11 := eq_true p11
         replace q11 := eq_true q11
         have p13 : 0 ≤ (x6_1 : Int) := of_decide_eq_true (by with_reducible assumption)
         have q13 : x6_1 < (a0.size : Int) := of_decide_eq_true (by with_reducible assumption)
         have hx13 := bt_at a0 x6_1
         replace p13 := eq_true p13
         replace q13 := eq_true q13
         go_wp2
         go_ret
         exact ⟨by first | rfl | (simp; done) | (simp [*]; done), by repeat (first | exact Drawn0.refl _ | apply Drawn0.step)⟩
        ·rw [if_neg c14] at H
         have c14b0 : decide ((bt a0 x6_1) < 48) = false := decide_eq_false c14
         clear c14
         by_cases c16 : (bt a0 x6_1) > 57
         ·rw [if_pos c16] at H
          have c16b0 : decide (57 < (bt a0 x6_1)) = true := decide_eq_true c16
          clear c16
          obtain rfl := Option.some.inj H
          have p5 : 0 ≤ (x6_1 : Int) := of_decide_eq_true (by with_reducible assumption)
          have q5 : x6_1 < (a0.size : Int) := of_decide_eq_true (by with_reducible assumption)
          have hx5 := bt_at a0 x6_1
          replace p5 := eq_true p5
          replace q5 := eq_true q5
          have p11 : 0 ≤ (x6_1 : Int) := of_decide_eq_true (by with_reducible assumption)
          have q11 : x6_1 < (a0.size : Int) := of_decide_eq_true (by with_reducible assumption)
          have hx11 := bt_at a0 x6_1
          replace p11 := eq_true p11
          replace q11 := eq_true q11
          have p13 : 0 ≤ (x6_1 : Int) := of_decide_eq_true (by with_reducible assumption)
          have q13 : x6_1 < (a0.size : Int) := of_decide_eq_true (by with_reducible assumption)
          have hx13 := bt_at a0 x6_1
          replace p13 := eq_true p13
          replace q13 := eq_true q13
          have p15 : 0 ≤ (x6_1 : Int) := of_decide_eq_true (by with_reducible assumption)
          have q15 : x6_1 < (a0.size : Int) := of_decide_eq_true (by with_reducible assumption)
          have hx15 := bt_at a0 x6_1
          replace p15 := eq_true p15
          replace q15 := eq_true q15
          go_wp2
          go_ret
          exact ⟨by first | rfl | (simp; done) | (simp [*]; done), by repeat (first | exact Drawn0.refl _ | apply Drawn0.step)⟩
         ·rw [if_neg c16] at H
          have c16b0 : decide (57 < (bt a0 x6_1)) = false := decide_eq_false c16
          clear c16
          have H' := Aside0.mk H
          clear H
          have p5 : 0 ≤ (x6_1 : Int) := of_decide_eq_true (by with_reducible assumption)
          have q5 : x6_1 < (a0.size : Int) := of_decide_eq_true (by with_reducible assumption)
          have hx5 := bt_at a0 x6_1
          replace p5 := eq_true p5
          replace q5 := eq_true q5
          have p11 : 0 ≤ (x6_1 : Int) := of_decide_eq_true (by with_reducible assumption)
          have q11 : x6_1 < (a0.size : Int) := of_decide_eq_true (by with_reducible assumption)
          have hx11 := bt_at a0 x6_1
          replace p11 := eq_true p11
          replace q11 := eq_true q11
          have p13 : 0 ≤ (x6_1 : Int) := of_decide_eq_true (by with_reducible assumption)
          have q13 : x6_1 < (a0.size : Int) := of_decide_eq_true (by with_reducible assumption)
          have hx13 := bt_at a0 x6_1
          replace p13 := eq_true p13
          replace q13 := eq_true q13
          have p15 : 0 ≤ (x6_1 : Int) := of_decide_eq_true (by with_reducible assumption)
          have q15 : x6_1 < (a0.size : Int) := of_decide_eq_true (by with_reducible assumption)
          have hx15 := bt_at a0 x6_1
          replace p15 := eq_true p15
          replace q15 := eq_true q15
          go_wp2
          go_roundg k1
          case measure => have := HK1.out; omega
          case rel => exact ⟨(wrap64 (x6_1 + 1)), (by first | rfl | (simp [*]; done)), H', ⟨by have := HK1.out; omega⟩, by repeat (first | exact Drawn0.refl _ | apply Drawn0.step)⟩
       ·rw [if_neg c12] at H
        have c12b0 : decide (122 < (bt a0 x6_1)) = false := decide_eq_false c12
        clear c12
        have H' := Aside0.mk H
        clear H
        have p5 : 0 ≤ (x6_1 : Int) := of_decide_eq_true (by with_reducible assumption)
        have q5 : x6_1 < (a0.size : Int) := of_decide_eq_true (by with_reducible assumption)
        have hx5 := bt_at a0 x6_1
        replace p5 := eq_true p5
        replace q5 := eq_true q5
        have p11 : 0 ≤ (x6_1 : Int) := of_decide_eq_true (by with_reducible assumption)
        have q11 : x6_1 < (a0.size : Int) := of_decide_eq_true (by with_reducible assumption)
        have hx11 := bt_at a0 x6_1
        replace p11 := eq_true p11
        replace q11 := eq_true q11
        go_wp2
        go_roundg k1
        case measure => have := HK1.out; omega
        case rel => exact ⟨(wrap64 (x6_1 + 1)), (by first | rfl | (simp [*]; done)), H', ⟨by have := HK1.out; omega⟩, by repeat (first | exact Drawn0.refl _ | apply Drawn0.step)⟩
     ·rw [if_neg c4] at H
      exact absurd H (by simp)
    ·rw [if_neg c3] at H
     exact absurd H (by simp)
   ·rw [if_neg c2] at H
    have c2b0 : decide (x6_1 < (a0.size : Int)) = false := decide_eq_false c2
    clear c2
    by_cases c17 : (a0.size : Int) ≥ 1
    ·rw [if_pos c17] at H
     have c17b0 : decide (1 ≤ (a0.size : Int)) = true := decide_eq_true c17
     have c17b1 : decide (1 ≤ a0.size) = true := decide_eq_true (by omega)
     clear c17
     obtain rfl := Option.some.inj H
     go_wp2
     go_ret
     exact ⟨by first | rfl | (simp; done) | (simp [*]; done), by repeat (first | exact Drawn0.refl _ | apply Drawn0.step)⟩
    ·rw [if_neg c17] at H
     have c17b0 : decide (1 ≤ (a0.size : Int)) = false := decide_eq_false c17
     have c17b1 : decide (1 ≤ a0.size) = false := decide_eq_false (by omega)
     clear c17
     obtain rfl := Option.some.inj H
     go_wp2
     go_ret
     exact ⟨by first | rfl | (simp; done) | (simp [*]; done), by repeat (first | exact Drawn0.refl _ | apply Drawn0.step)⟩

mutual
def impl_ValidPath.j0 : Nat → ByteArray → Bool → Option (Bool)
 | 0, _, _ => none
 | k + 1, x3, x21 => if x21 = true then (some false) else ((strings_Split.f x3 (⟨#[47]⟩ : ByteArray)).bind fun t248 => (impl_ValidPath.l0 k t248 t248 (t248.length : Int) 0))
def impl_ValidPath.l0 : Nat → List ByteArray → List ByteArray → Int → Int → Option (Bool)
 | 0, _, _, _, _ => none
 | k + 1, x5, x24, x25, x26 => if x26 < x25 then (if 0 ≤ x26 then (if x26 < (x24.length : Int) then ((impl_validName.f k (rdOf ByteArray.empty x24 x26)).bind fun t252 => (if t252 = true then (impl_ValidPath.l0 k x5 x24 x25 (wrap64 (x26 + 1))) else (some false))) else (none)) else (none)) else (some (decide ((x5.length : Int) ≤ 6)))
end
def impl_ValidPath.f (k : Nat) (a0 : ByteArray) : Option (Bool) := if a0.toList = ([47] : List UInt8) then (some true) else ((strings_CutPrefix.f a0 (⟨#[47]⟩ : ByteArray)).bind fun bt246 => (if bt246.2 = true then (impl_ValidPath.j0 k bt246.1 (decide ((a0.size : Int) > 102))) else (impl_ValidPath.j0 k bt246.1 true)))
theorem impl_ValidPath.mono_l : ∀ k, (∀ y0 y1, LeO (impl_ValidPath.j0 k y0 y1) (impl_ValidPath.j0 (k + 1) y0 y1)) ∧ (∀ y0 y1 y2 y3, LeO (impl_ValidPath.l0 k y0 y1 y2 y3) (impl_ValidPath.l0 (k + 1) y0 y1 y2 y3))
 | 0 => ⟨fun _ _ r h => by simp [impl_ValidPath.j0] at h, fun _ _ _ _ r h => by simp [impl_ValidPath.l0] at h⟩
 | k + 1 => by
  obtain ⟨ih0, ih1⟩ := impl_ValidPath.mono_l k
  refine ⟨?_, ?_⟩
  ·intro y0 y1
   unfold impl_ValidPath.j0
   repeat' first
   | (with_reducible exact ih0 _ _)
   | (with_reducible exact ih1 _ _ _ _)
   | (with_reducible exact impl_validName.mono _ _)
   | (with_reducible exact LeO.refl _)
   | (with_reducible exact LeO.none _)
   | (with_reducible refine LeO.ite ?_ ?_)
   | (with_reducible refine LeO.bind ?_ (fun _ => ?_))
   | exact ih0 _ _
   | exact ih1 _ _ _ _
   | exact impl_validName.mono _ _
   | exact LeO.none _
   | refine LeO.ite ?_ ?_
   | refine LeO.bind ?_ (fun _ => ?_)
  ·intro y0 y1 y2 y3
   unfold impl_ValidPath.l0
   repeat' first
   | (with_reducible exact ih0 _ _)
   | (with_reducible exact ih1 _ _ _ _)
   | (with_reducible exact impl_validName.mono _ _)
   | (with_reducible exact LeO.refl _)
   | (with_reducible exact LeO.none _)
   | (with_reducible refine LeO.ite ?_ ?_)
   | (with_reducible refine LeO.bind ?_ (fun _ => ?_))
   | exact ih0 _ _
   | exact ih1 _ _ _ _
   | exact impl_validName.mono _ _
   | exact LeO.none _
   | refine LeO.ite ?_ ?_
   | refine LeO.bind ?_ (fun _ => ?_)
theorem impl_ValidPath.mono : ∀ a0 k, LeO (impl_ValidPath.f k a0) (impl_ValidPath.f (k + 1) a0) := by
 intro a0 k
 obtain ⟨ih0, ih1⟩ := impl_ValidPath.mono_l k
 unfold impl_ValidPath.f
 repeat' first
   | (with_reducible exact ih0 _ _)
   | (with_reducible exact ih1 _ _ _ _)
   | (with_reducible exact impl_validName.mono _ _)
   | (with_reducible exact LeO.refl _)
   | (with_reducible exact LeO.none _)
   | (with_reducible refine LeO.ite ?_ ?_)
   | (with_reducible refine LeO.bind ?_ (fun _ => ?_))
   | exact ih0 _ _
   | exact ih1 _ _ _ _
   | exact impl_validName.mono _ _
   | exact LeO.none _
   | refine LeO.ite ?_ ?_
   | refine LeO.bind ?_ (fun _ => ?_)
set_option maxHeartbeats 8000000 in
set_option maxRecDepth 100000 in
theorem impl_ValidPath.calls (k : Nat) (a0 : ByteArray) (r : Bool) (w : World) (h : impl_ValidPath.f k a0 = some r) (hGMAX_ : Go.Proofs.YtfiojiokmkiflaaDoorH.GFMAX w) :
  Calls Tryd.prog 130 #[.string a0] w fun e w' => e = .returned (.bool r) ∧ Below w.heap.size w w' := by
 have HGMAX_ := Aside0.mk hGMAX_
 clear hGMAX_
 have HB := Aside0.mk (Below.refl w.heap.size w)
 have H : (if a0.toList = ([47] : List UInt8) then (some true) else ((strings_CutPrefix.f a0 (⟨#[47]⟩ : ByteArray)).bind fun bt246 => (if bt246.2 = true then (impl_ValidPath.j0 k bt246.1 (decide ((a0.size : Int) > 102))) else (impl_ValidPath.j0 k bt246.1 true)))) = some r := h
 clear h
 by_cases c2 : a0.toList = ([47] : List UInt8)
 ·rw [if_pos c2] at H
  have c2b0 : (a0.toList == ([47] : List UInt8)) = true := beq_iff_eq.mpr c2
  have c2b1 : (a0.toList != ([47] : List UInt8)) = false := bne_eq_false_iff_eq.mpr c2
  clear c2
  obtain rfl := Option.some.inj H
  go_enter Tryd.func130, Tryd.ntmps130
  go_wp2
  go_ret
  exact ⟨by first | rfl | (simp [*] <;> rfl), by repeat (first | (with_reducible first | exact HB.out | apply zh | apply zf | apply zg) | exact HB.out)⟩
 ·rw [if_neg c2] at H
  have c2b0 : (a0.toList == ([47] : List UInt8)) = false := beq_eq_false_iff_ne.mpr c2
  have c2b1 : (a0.toList != ([47] : List UInt8)) = true := bne_iff_ne.mpr c2
  replace H := Option.bind_eq_some_iff.mp H
  obtain ⟨⟨t246, t247⟩, A30, H⟩ := H
  try dsimp only at H
  have A3 := Aside0.mk A30
  clear A30
  have HC4 := Aside0.mk H
  clear H
  go_enter Tryd.func130, Tryd.ntmps130
  go_upto_region 4 with (first | ((with_reducible refine zr (f := 151) rfl ?_); refine zz (some 12) rfl rfl Tryd.func151 (by kernel_rfl) rfl #[.string a0, .string (⟨#[47]⟩ : ByteArray)] rfl (by (try simp only [List.map_toArray, List.map_cons, List.map_nil]); first | done | rfl) ?_; (with_reducible refine (strings_CutPrefix.calls a0 (⟨#[47]⟩ : ByteArray) t246 t247 _ A3.out).mono ?_); rintro e w' ⟨rfl, ⟨nd, rfl⟩⟩; refine ⟨_, rfl, ?_⟩))
  (try simp only [Act.put, List.setIfInBounds_toArray, List.set_cons_zero, List.set_cons_succ])
  go_cut [21] (fun v21 wc => ∃ (kq : Nat) (x21_3 : Bool), v21 = .bool x21_3 ∧ Aside0 (impl_ValidPath.j0 kq t246 x21_3 = some r) ∧ Aside0 (kq ≤ k) ∧ Aside0 (Below w.heap.size w wc))
  case first =>
   have H := HC4.out
   clear HC4
   by_cases c5 : t247 = true
   ·subst c5
    rw [if_pos rfl] at H
    have H' := Aside0.mk H
    clear H
    go_wp2
    go_meet
    case rel => exact ⟨_, (decide ((a0.size : Int) > 102)), (by first | rfl | (simp [*]; done)), H', ⟨by first | omega | exact Nat.le_refl _⟩, ⟨by repeat (first | (with_reducible first | exact HB.out | apply zh | apply zf | apply zg) | exact HB.out)⟩⟩
   ·replace c5 := Bool.eq_false_iff.mpr c5
    subst c5
    rw [if_neg (show ¬ (false = true) by decide)] at H
    have H' := Aside0.mk H
    clear H
    go_wp2
    go_meet
    case rel => exact ⟨_, (true), (by first | rfl | (simp [*]; done)), H', ⟨by first | omega | exact Nat.le_refl _⟩, ⟨by repeat (first | (with_reducible first | exact HB.out | apply zh | apply zf | apply zg) | exact HB.out)⟩⟩
  case rest =>
   clear HC4
   try clear c1
   try clear c2
   try clear c2b0
   try clear c2b1
   try clear p2
   try clear c5
   obtain ⟨kq, x21_3, rfl, HA, HJ3, HB⟩ := hcut
   cases kq with
   | zero => exact absurd HA.out (by simp [impl_ValidPath.j0])
   | succ kj3 =>
    have H := HA.out
    clear HA
    simp only [impl_ValidPath.j0] at H
    by_cases c6 : x21_3 = true
    ·subst c6
     rw [if_pos rfl] at H
     obtain rfl := Option.some.inj H
     go_wp2
     go_ret
     exact ⟨by first | rfl | (simp [*] <;> rfl), by repeat (first | (with_reducible first | exact HB.out | apply zh | apply zf | apply zg) | exact HB.out)⟩
    ·replace c6 := Bool.eq_false_iff.mpr c6
     subst c6
     rw [if_neg (show ¬ (false = true) by decide)] at H
     replace H := Option.bind_eq_some_iff.mp H
     obtain ⟨t248, A70, H⟩ := H
     try dsimp only at H
     have A7 := Aside0.mk A70
     clear A70
     have H' := Aside0.mk H
     clear H
     go_wp2_with (first | ((with_reducible refine zr (f := 77) rfl ?_); refine zz (some 23) rfl rfl Tryd.func77 (by kernel_rfl) rfl #[.string t246, .string (⟨#[47]⟩ : ByteArray)] rfl (by (try simp only [List.map_toArray, List.map_cons, List.map_nil]); first | done | rfl) ?_; (with_reducible refine (strings_Split.calls t246 (⟨#[47]⟩ : ByteArray) t248 _ A7.out ?globMAX_).mono ?_); (case globMAX_ => exact Go.Proofs.YtfiojiokmkiflaaDoorH.GFMAX.below HGMAX_.out (by repeat (first | (with_reducible first | exact HB.out | exact Below.refl _ _ | apply zh | apply zf | apply zg | refine zd ?_ (Aside0.out (by assumption))) | exact HB.out))); rintro e w8 ⟨v249, rfl, zC, hb⟩; refine ⟨_, rfl, ?_⟩; have n0_ := Aside0.mk (Kd.R_lower zC (zm (by exact bl HB.out))); have n1_ := Aside0.mk (zn (by exact bl HB.out) hb); clear HB; have zA := n0_; have HB := n1_; clear n0_ n1_; (try clear hb); (try clear hb2); (try clear hk); (try clear hi); (try clear zC); obtain ⟨Ao9, co9, eo9⟩ := Kd.R_slice zA.out; subst eo9))
     go_loopg [26] kj3 (fun kq v26 w' => ∃ (x26_2 : Int), v26 = .int .i64 x26_2 ∧ Aside0 (impl_ValidPath.l0 kq t248 t248 (t248.length : Int) x26_2 = some r) ∧ Aside0 (kq ≤ kj3) ∧ Aside0 (Kd.R Kd.string 9 w' w.heap.size (fun _ => True) (.slice Ao9 t248.length co9) t248) ∧ Aside0 (Kd.R Kd.string 9 w' w.heap.size (fun _ => True) (.slice Ao9 t248.length co9) t248) ∧ Aside0 (Below w.heap.size w w'))
     case atStart => exact ⟨(0), (by first | rfl | (simp [*]; done)), H', ⟨Nat.le_refl _⟩, ⟨RL zA.out⟩, ⟨RL zA.out⟩, ⟨by repeat (first | (with_reducible first | exact HB.out | apply zh | apply zf | apply zg) | exact HB.out)⟩⟩
     case round =>
      clear H'
      try clear c1
      try clear c2
      try clear c2b0
      try clear c2b1
      try clear p2
      try clear c5
      try clear c6
      try clear c7
      try clear p2
      obtain ⟨x26_2, rfl, HA, HK2, zD, zB, HB⟩ := hrel
      cases gk with
      | zero => exact absurd HA.out (by simp [impl_ValidPath.l0])
      | succ k2 =>
       have H := HA.out
       clear HA
       simp only [impl_ValidPath.l0] at H
       by_cases c10 : x26_2 < (t248.length : Int)
       ·rw [if_pos c10] at H
        have c10b0 : decide (x26_2 < (t248.length : Int)) = true := decide_eq_true c10
        clear c10
        by_cases c11 : 0 ≤ x26_2
        ·rw [if_pos c11] at H
         have c11b0 : decide (0 ≤ x26_2) = true := decide_eq_true c11
         clear c11
         by_cases c12 : x26_2 < (t248.length : Int)
         ·rw [if_pos c12] at H
          have c12b0 : decide (x26_2 < (t248.length : Int)) = true := decide_eq_true c12
          clear c12
          replace H := Option.bind_eq_some_iff.mp H
          obtain ⟨t252, A130, H⟩ := H
          try dsimp only at H
          have A13 := Aside0.mk A130
          clear A130
          by_cases c14 : t252 = true
          ·subst c14
           rw [if_pos rfl] at H
           have H' := Aside0.mk H
           clear H
           have p251 : 0 ≤ (x26_2 : Int) := of_decide_eq_true (by with_reducible assumption)
           have q251 : x26_2 < (t248.length : Int) := of_decide_eq_true (by with_reducible assumption)
           obtain ⟨ad251, e251, hx251_0⟩ := Kd.at_string (Kd.R_reads' zB.out).2.2 x26_2 p251 q251
           cases e251
           replace p251 := eq_true p251
           replace q251 := eq_true q251
           go_wp2_with (first | ((with_reducible refine zr (f := 152) rfl ?_); refine zz (some 31) rfl rfl Tryd.func152 (by kernel_rfl) rfl #[.string (rdOf ByteArray.empty t248 x26_2)] rfl (by (try simp only [List.map_toArray, List.map_cons, List.map_nil]); first | done | rfl) ?_; (with_reducible refine (impl_validName.calls k2 (rdOf ByteArray.empty t248 x26_2) true _ A13.out).mono ?_); rintro e w' ⟨rfl, ⟨nd, rfl⟩⟩; refine ⟨_, rfl, ?_⟩))
           go_roundg k2
           case measure => have := HJ3.out; have := HK2.out; omega
           case rel => exact ⟨(wrap64 (x26_2 + 1)), (by first | rfl | (simp [*]; done)), H', ⟨by have := HJ3.out; have := HK2.out; omega⟩, ⟨RL zD.out⟩, ⟨RL zB.out⟩, ⟨by repeat (first | (with_reducible first | exact HB.out | apply zh | apply zf | apply zg) | exact HB.out)⟩⟩
          ·replace c14 := Bool.eq_false_iff.mpr c14
           subst c14
           rw [if_neg (show ¬ (false = true) by decide)] at H
           obtain rfl := Option.some.inj H
           have p251 : 0 ≤ (x26_2 : Int) := of_decide_eq_true (by with_reducible assumption)
           have q251 : x26_2 < (t248.length : Int) := of_decide_eq_true (by with_reducible assumption)
           obtain ⟨ad251, e251, hx251_0⟩ := Kd.at_string (Kd.R_reads' zB.out).2.2 x26_2 p251 q251
           cases e251
           replace p251 := eq_true p251
           replace q251 := eq_true q251
           go_wp2_with (first | ((with_reducible refine zr (f := 152) rfl ?_); refine zz (some 31) rfl rfl Tryd.func152 (by kernel_rfl) rfl #[.string (rdOf ByteArray.empty t248 x26_2)] rfl (by (try simp only [List.map_toArray, List.map_cons, List.map_nil]); first | done | rfl) ?_; (with_reducible refine (impl_validName.calls k2 (rdOf ByteArray.empty t248 x26_2) false _ A13.out).mono ?_); rintro e w' ⟨rfl, ⟨nd, rfl⟩⟩; refine ⟨_, rfl, ?_⟩))
           go_ret
           exact ⟨by first | rfl | (simp [*] <;> rfl), by repeat (first | (with_reducible first | exact HB.out | apply zh | apply zf | apply zg) | exact HB.out)⟩
         ·rw [if_neg c12] at H
          exact absurd H (by simp)
        ·rw [if_neg c11] at H
         exact absurd H (by simp)
       ·rw [if_neg c10] at H
        have c10b0 : decide (x26_2 < (t248.length : Int)) = false := decide_eq_false c10
        clear c10
        obtain rfl := Option.some.inj H
        go_wp2
        go_ret
        exact ⟨by first | rfl | (simp [*] <;> rfl), by repeat (first | (with_reducible first | exact HB.out | apply zh | apply zf | apply zg) | exact HB.out)⟩

section
open Go
variable {P : Program} {ops : Array Oper} {rest : List Oper} {o : Oper} {a : Act} {Q : Exit → Act → World → Prop} {W : World}
theorem index_arr (hgd : o.guard = none) {t e : TypeId} {n j : Nat} {k ke : IntKind} {x i : Operand} {cs : Array Value} {v : Value} (ho : o.op = .index t x i) {N : Tmp} (_hd : o.dst = some N)
  (hx : a.eval x = .agg cs) (hi : a.eval i = .int k (j : Int)) (hu : P.underlying t = some (.array n e)) (he : P.underlying e = some (.int ke)) (hz : (P.info? e).map (·.size) = some 1) (hj : j < n) (hv : cs[j]? = some v)
  (h : wpList P ops Q rest (a.put o.dst v) W) : wpList P ops Q (o :: rest) a W := by
 refine Kd.event_run hgd (v := v) (w1 := W) ?_ h
 cases hq : P.info? e with
 | none => simp [hq] at hz
 | some f =>
  have hs : f.size = 1 := by simpa [hq] using hz
  have hagg : (isAgg e).run P W = .ok false W := by
   unfold isAgg
   simp [run_underlying he]
  unfold execOp
  simp [ho, hx, hi, Instr.index, asIntOf, run_underlying hu, sizeOf, typeInfo, hq, hs, part, hagg, hj, hv]
end
def inStat (v : Int) : Prop := 0 ≤ v ∧ v ≤ 2147483647
instance (v : Int) : Decidable (inStat v) := by unfold inStat; infer_instance
def impl_Node_valid.f (k : Nat) (a0_0 : ByteArray) (a0_1 : ByteArray) (a0_2 : Int) (a0_3 : Int) (a0_4 : Int) (a0_5 : Int) (a0_6 : Int) : Option (Bool) := if inStat a0_2 ∧ inStat a0_3 ∧ inStat a0_4 ∧ inStat a0_5 ∧ inStat a0_6 then ((impl_ValidPath.f k a0_0).bind fun t => (if t = true then (some (decide ((a0_1.size : Int) ≤ 64))) else (some false))) else (some false)
theorem impl_Node_valid.mono : ∀ a0 a1 a2 a3 a4 a5 a6 k, LeO (impl_Node_valid.f k a0 a1 a2 a3 a4 a5 a6) (impl_Node_valid.f (k + 1) a0 a1 a2 a3 a4 a5 a6) := by
 intro a0 a1 a2 a3 a4 a5 a6 k
 unfold impl_Node_valid.f
 repeat' first
   | (with_reducible exact impl_ValidPath.mono _ _)
   | (with_reducible exact LeO.refl _)
   | (with_reducible exact LeO.none _)
   | (with_reducible refine LeO.ite ?_ ?_)
   | (with_reducible refine LeO.bind ?_ (fun _ => ?_))
   | exact impl_ValidPath.mono _ _
   | exact LeO.none _
   | refine LeO.ite ?_ ?_
   | refine LeO.bind ?_ (fun _ => ?_)
set_option maxHeartbeats 8000000 in
set_option maxRecDepth 100000 in
theorem impl_Node_valid.calls (k : Nat) (a0_0 : ByteArray) (a0_1 : ByteArray) (a0_2 : Int) (a0_3 : Int) (a0_4 : Int) (a0_5 : Int) (a0_6 : Int) (r : Bool) (w : World) (h : impl_Node_valid.f k a0_0 a0_1 a0_2 a0_3 a0_4 a0_5 a0_6 = some r) (hGMAX_ : Go.Proofs.YtfiojiokmkiflaaDoorH.GFMAX w) :
  Calls Tryd.prog 91 #[.agg #[.string a0_0, .string a0_1, .int .i64 a0_2, .int .i64 a0_3, .int .i64 a0_4, .int .i64 a0_5, .int .i64 a0_6]] w fun e w' => e = .returned (.bool r) ∧ Below w.heap.size w w' := by
 have hu := Tryd.underlying77
 have huA := Tryd.underlying147
 have huE := Tryd.underlying2
 have HGMAX_ := Aside0.mk hGMAX_
 clear hGMAX_
 have HB := Aside0.mk (Below.refl w.heap.size w)
 have H := Aside0.mk h
 clear h
 go_enter Tryd.func91, Tryd.ntmps91
 go_wp2_with (first | ((with_reducible refine zu (N := 1) rfl ?_); refine zy ?hg (N := 1) ?hd (cs := #[.string a0_0, .string a0_1, .int .i64 a0_2, .int .i64 a0_3, .int .i64 a0_4, .int .i64 a0_5, .int .i64 a0_6]) (t := 77) ?hr ?_; (case hd => rfl); (case hg => rfl); (case hr => first | (go_simp; done) | (go_simp; rfl)); intro gb hg w1 hbox hb; have n0_ := Aside0.mk (zn HB.out hb); have BK := Aside0.mk hbox; clear HB; have HB := n0_; clear n0_; clear hb hbox hg; have zA : w1.cell? ⟨gb, 0, none⟩ = some (.string a0_0) := (zc BK.out 0).trans rfl; have zB : w1.cell? ⟨gb, 1, none⟩ = some (.string a0_1) := (zc BK.out 1).trans rfl; have zC : w1.cell? ⟨gb, 2, none⟩ = some (.int .i64 a0_2) := (zc BK.out 2).trans rfl; have zD : w1.cell? ⟨gb, 3, none⟩ = some (.int .i64 a0_3) := (zc BK.out 3).trans rfl; have zE : w1.cell? ⟨gb, 4, none⟩ = some (.int .i64 a0_4) := (zc BK.out 4).trans rfl; have zF : w1.cell? ⟨gb, 5, none⟩ = some (.int .i64 a0_5) := (zc BK.out 5).trans rfl; have zG : w1.cell? ⟨gb, 6, none⟩ = some (.int .i64 a0_6) := (zc BK.out 6).trans rfl))
 go_loopg [16] 5 (fun kq v16 w' => ∃ i : Nat, v16 = .int .i64 (i : Int) ∧ Aside0 (i + kq = 5) ∧ Aside0 (∀ j, j < i → inStat ([a0_2, a0_3, a0_4, a0_5, a0_6].getD j 0)) ∧ Aside0 (w'.heap[gb]? = some (.cells #[.string a0_0, .string a0_1, .int .i64 a0_2, .int .i64 a0_3, .int .i64 a0_4, .int .i64 a0_5, .int .i64 a0_6] 77 (0, 0))) ∧ Aside0 (Below w.heap.size w w'))
 case atStart => exact ⟨0, rfl, ⟨by omega⟩, ⟨fun j hj => by omega⟩, BK, HB⟩
 case round =>
  obtain ⟨i, rfl, HK, HA, BK, HB⟩ := hrel
  cases gk with
  | zero =>
   obtain rfl : i = 5 := by have := HK.out; omega
   have e0 := HA.out 0 (by omega)
   have e1 := HA.out 1 (by omega)
   have e2 := HA.out 2 (by omega)
   have e3 := HA.out 3 (by omega)
   have e4 := HA.out 4 (by omega)
   have h := H.out
   unfold impl_Node_valid.f at h
   rw [if_pos ⟨e0, e1, e2, e3, e4⟩] at h
   clear e0 e1 e2 e3 e4 H HA
   obtain ⟨t, ht, h⟩ := Option.bind_eq_some_iff.mp h
   have A2 := Aside0.mk ht
   clear ht
   have zA : wr.cell? ⟨gb, 0, none⟩ = some (.string a0_0) := (zc BK.out 0).trans rfl
   cases t with
   | true =>
    rw [if_pos rfl] at h
    obtain rfl := Option.some.inj h
    clear h
    go_wp2_with (first | ((with_reducible refine zr (f := 130) rfl ?_); refine zz (some 28) rfl rfl Tryd.func130 (by kernel_rfl) rfl #[.string a0_0] rfl (by (try simp only [List.map_toArray, List.map_cons, List.map_nil]); first | done | rfl) ?_; (with_reducible refine (impl_ValidPath.calls k a0_0 _ _ A2.out ?glob_).mono ?_); (case glob_ => exact Go.Proofs.YtfiojiokmkiflaaDoorH.GFMAX.below HGMAX_.out (by repeat (first | (with_reducible first | exact HB.out | apply zh | apply zf | apply zg) | exact HB.out))); rintro e w2 ⟨rfl, hb⟩; refine ⟨_, rfl, ?_⟩; have n0_ := Aside0.mk (zi (g := gb) (o := .cells #[.string a0_0, .string a0_1, .int .i64 a0_2, .int .i64 a0_3, .int .i64 a0_4, .int .i64 a0_5, .int .i64 a0_6] 77 (0, 0)) (by (with_reducible repeat (first | refine zk ?_ _ | refine zl ?_ | refine zj ?_ _)); exact BK.out) hb); have n1_ := Aside0.mk (zn (by repeat (first | (with_reducible first | exact HB.out | apply zh | apply zf | apply zg) | exact HB.out)) hb); clear BK; clear HB; have BK := n0_; have HB := n1_; clear n0_ n1_; clear hb; have zB : w2.cell? ⟨gb, 1, none⟩ = some (.string a0_1) := (zc BK.out 1).trans rfl))
    go_ret
    exact ⟨by first | rfl | (simp; done) | (congr 2; simp; done), HB.out⟩
   | false =>
    rw [if_neg (by decide)] at h
    obtain rfl := Option.some.inj h
    clear h
    go_wp2_with (first | ((with_reducible refine zr (f := 130) rfl ?_); refine zz (some 28) rfl rfl Tryd.func130 (by kernel_rfl) rfl #[.string a0_0] rfl (by (try simp only [List.map_toArray, List.map_cons, List.map_nil]); first | done | rfl) ?_; (with_reducible refine (impl_ValidPath.calls k a0_0 _ _ A2.out ?glob_).mono ?_); (case glob_ => exact Go.Proofs.YtfiojiokmkiflaaDoorH.GFMAX.below HGMAX_.out (by repeat (first | (with_reducible first | exact HB.out | apply zh | apply zf | apply zg) | exact HB.out))); rintro e w2 ⟨rfl, hb⟩; refine ⟨_, rfl, ?_⟩; have n0_ := Aside0.mk (zi (g := gb) (o := .cells #[.string a0_0, .string a0_1, .int .i64 a0_2, .int .i64 a0_3, .int .i64 a0_4, .int .i64 a0_5, .int .i64 a0_6] 77 (0, 0)) (by (with_reducible repeat (first | refine zk ?_ _ | refine zl ?_ | refine zj ?_ _)); exact BK.out) hb); have n1_ := Aside0.mk (zn (by repeat (first | (with_reducible first | exact HB.out | apply zh | apply zf | apply zg) | exact HB.out)) hb); clear BK; clear HB; have BK := n0_; have HB := n1_; clear n0_ n1_; clear hb))
    go_ret
    exact ⟨by first | rfl | (simp; done), HB.out⟩
  | succ k1 =>
   have hi : i < 5 := by have := HK.out; omega
   rcases (show i = 0 ∨ i = 1 ∨ i = 2 ∨ i = 3 ∨ i = 4 by omega) with rfl | rfl | rfl | rfl | rfl
   ·by_cases c : inStat a0_2
    ·have c0 : decide (a0_2 < 0) = false := decide_eq_false (by have := c.1; omega)
     have c1 : decide (2147483647 < a0_2) = false := decide_eq_false (by have := c.2; omega)
     go_wp2_with (refine index_arr rfl rfl (N := 18) rfl rfl rfl huA huE (by kernel_rfl) (by decide) rfl ?_)
     go_roundg k1
     case measure => omega
     case rel =>
      refine ⟨1, (by first | rfl | (simp; done)), ⟨by have := HK.out; omega⟩, ⟨fun j hj => ?_⟩, ⟨by (with_reducible repeat (first | refine zk ?_ _ | refine zl ?_ | refine zj ?_ _)); exact BK.out⟩, ⟨by repeat (first | (with_reducible first | exact HB.out | apply zh | apply zf | apply zg) | exact HB.out)⟩⟩
      by_cases hj2 : j = 0
      ·subst hj2; exact c
      ·exact HA.out j (by omega)
    ·have h := H.out
     unfold impl_Node_valid.f at h
     rw [if_neg (fun hh => c hh.1)] at h
     obtain rfl := Option.some.inj h
     clear h
     by_cases c2 : a0_2 < 0
     ·have c0 : decide (a0_2 < 0) = true := decide_eq_true c2
      go_wp2_with (refine index_arr rfl rfl (N := 18) rfl rfl rfl huA huE (by kernel_rfl) (by decide) rfl ?_)
      go_ret
      exact ⟨rfl, by repeat (first | (with_reducible first | exact HB.out | apply zh | apply zf | apply zg) | exact HB.out)⟩
     ·have c0 : decide (a0_2 < 0) = false := decide_eq_false c2
      have c1 : decide (2147483647 < a0_2) = true := decide_eq_true (by unfold inStat at c; omega)
      go_wp2_with (refine index_arr rfl rfl (N := 18) rfl rfl rfl huA huE (by kernel_rfl) (by decide) rfl ?_)
      go_ret
      exact ⟨rfl, by repeat (first | (with_reducible first | exact HB.out | apply zh | apply zf | apply zg) | exact HB.out)⟩
   ·by_cases c : inStat a0_3
    ·have c0 : decide (a0_3 < 0) = false := decide_eq_false (by have := c.1; omega)
     have c1 : decide (2147483647 < a0_3) = false := decide_eq_false (by have := c.2; omega)
     go_wp2_with (refine index_arr rfl rfl (N := 18) rfl rfl rfl huA huE (by kernel_rfl) (by decide) rfl ?_)
     go_roundg k1
     case measure => omega
     case rel =>
      refine ⟨2, (by first | rfl | (simp; done)), ⟨by have := HK.out; omega⟩, ⟨fun j hj => ?_⟩, ⟨by (with_reducible repeat (first | refine zk ?_ _ | refine zl ?_ | refine zj ?_ _)); exact BK.out⟩, ⟨by repeat (first | (with_reducible first | exact HB.out | apply zh | apply zf | apply zg) | exact HB.out)⟩⟩
      by_cases hj2 : j = 1
      ·subst hj2; exact c
      ·exact HA.out j (by omega)
    ·have h := H.out
     unfold impl_Node_valid.f at h
     rw [if_neg (fun hh => c hh.2.1)] at h
     obtain rfl := Option.some.inj h
     clear h
     by_cases c2 : a0_3 < 0
     ·have c0 : decide (a0_3 < 0) = true := decide_eq_true c2
      go_wp2_with (refine index_arr rfl rfl (N := 18) rfl rfl rfl huA huE (by kernel_rfl) (by decide) rfl ?_)
      go_ret
      exact ⟨rfl, by repeat (first | (with_reducible first | exact HB.out | apply zh | apply zf | apply zg) | exact HB.out)⟩
     ·have c0 : decide (a0_3 < 0) = false := decide_eq_false c2
      have c1 : decide (2147483647 < a0_3) = true := decide_eq_true (by unfold inStat at c; omega)
      go_wp2_with (refine index_arr rfl rfl (N := 18) rfl rfl rfl huA huE (by kernel_rfl) (by decide) rfl ?_)
      go_ret
      exact ⟨rfl, by repeat (first | (with_reducible first | exact HB.out | apply zh | apply zf | apply zg) | exact HB.out)⟩
   ·by_cases c : inStat a0_4
    ·have c0 : decide (a0_4 < 0) = false := decide_eq_false (by have := c.1; omega)
     have c1 : decide (2147483647 < a0_4) = false := decide_eq_false (by have := c.2; omega)
     go_wp2_with (refine index_arr rfl rfl (N := 18) rfl rfl rfl huA huE (by kernel_rfl) (by decide) rfl ?_)
     go_roundg k1
     case measure => omega
     case rel =>
      refine ⟨3, (by first | rfl | (simp; done)), ⟨by have := HK.out; omega⟩, ⟨fun j hj => ?_⟩, ⟨by (with_reducible repeat (first | refine zk ?_ _ | refine zl ?_ | refine zj ?_ _)); exact BK.out⟩, ⟨by repeat (first | (with_reducible first | exact HB.out | apply zh | apply zf | apply zg) | exact HB.out)⟩⟩
      by_cases hj2 : j = 2
      ·subst hj2; exact c
      ·exact HA.out j (by omega)
    ·have h := H.out
     unfold impl_Node_valid.f at h
     rw [if_neg (fun hh => c hh.2.2.1)] at h
     obtain rfl := Option.some.inj h
     clear h
     by_cases c2 : a0_4 < 0
     ·have c0 : decide (a0_4 < 0) = true := decide_eq_true c2
      go_wp2_with (refine index_arr rfl rfl (N := 18) rfl rfl rfl huA huE (by kernel_rfl) (by decide) rfl ?_)
      go_ret
      exact ⟨rfl, by repeat (first | (with_reducible first | exact HB.out | apply zh | apply zf | apply zg) | exact HB.out)⟩
     ·have c0 : decide (a0_4 < 0) = false := decide_eq_false c2
      have c1 : decide (2147483647 < a0_4) = true := decide_eq_true (by unfold inStat at c; omega)
      go_wp2_with (refine index_arr rfl rfl (N := 18) rfl rfl rfl huA huE (by kernel_rfl) (by decide) rfl ?_)
      go_ret
      exact ⟨rfl, by repeat (first | (with_reducible first | exact HB.out | apply zh | apply zf | apply zg) | exact HB.out)⟩
   ·by_cases c : inStat a0_5
    ·have c0 : decide (a0_5 < 0) = false := decide_eq_false (by have := c.1; omega)
     have c1 : decide (2147483647 < a0_5) = false := decide_eq_false (by have := c.2; omega)
     go_wp2_with (refine index_arr rfl rfl (N := 18) rfl rfl rfl huA huE (by kernel_rfl) (by decide) rfl ?_)
     go_roundg k1
     case measure => omega
     case rel =>
      refine ⟨4, (by first | rfl | (simp; done)), ⟨by have := HK.out; omega⟩, ⟨fun j hj => ?_⟩, ⟨by (with_reducible repeat (first | refine zk ?_ _ | refine zl ?_ | refine zj ?_ _)); exact BK.out⟩, ⟨by repeat (first | (with_reducible first | exact HB.out | apply zh | apply zf | apply zg) | exact HB.out)⟩⟩
      by_cases hj2 : j = 3
      ·subst hj2; exact c
      ·exact HA.out j (by omega)
    ·have h := H.out
     unfold impl_Node_valid.f at h
     rw [if_neg (fun hh => c hh.2.2.2.1)] at h
     obtain rfl := Option.some.inj h
     clear h
     by_cases c2 : a0_5 < 0
     ·have c0 : decide (a0_5 < 0) = true := decide_eq_true c2
      go_wp2_with (refine index_arr rfl rfl (N := 18) rfl rfl rfl huA huE (by kernel_rfl) (by decide) rfl ?_)
      go_ret
      exact ⟨rfl, by repeat (first | (with_reducible first | exact HB.out | apply zh | apply zf | apply zg) | exact HB.out)⟩
     ·have c0 : decide (a0_5 < 0) = false := decide_eq_false c2
      have c1 : decide (2147483647 < a0_5) = true := decide_eq_true (by unfold inStat at c; omega)
      go_wp2_with (refine index_arr rfl rfl (N := 18) rfl rfl rfl huA huE (by kernel_rfl) (by decide) rfl ?_)
      go_ret
      exact ⟨rfl, by repeat (first | (with_reducible first | exact HB.out | apply zh | apply zf | apply zg) | exact HB.out)⟩
   ·by_cases c : inStat a0_6
    ·have c0 : decide (a0_6 < 0) = false := decide_eq_false (by have := c.1; omega)
     have c1 : decide (2147483647 < a0_6) = false := decide_eq_false (by have := c.2; omega)
     go_wp2_with (refine index_arr rfl rfl (N := 18) rfl rfl rfl huA huE (by kernel_rfl) (by decide) rfl ?_)
     go_roundg k1
     case measure => omega
     case rel =>
      refine ⟨5, (by first | rfl | (simp; done)), ⟨by have := HK.out; omega⟩, ⟨fun j hj => ?_⟩, ⟨by (with_reducible repeat (first | refine zk ?_ _ | refine zl ?_ | refine zj ?_ _)); exact BK.out⟩, ⟨by repeat (first | (with_reducible first | exact HB.out | apply zh | apply zf | apply zg) | exact HB.out)⟩⟩
      by_cases hj2 : j = 4
      ·subst hj2; exact c
      ·exact HA.out j (by omega)
    ·have h := H.out
     unfold impl_Node_valid.f at h
     rw [if_neg (fun hh => c hh.2.2.2.2)] at h
     obtain rfl := Option.some.inj h
     clear h
     by_cases c2 : a0_6 < 0
     ·have c0 : decide (a0_6 < 0) = true := decide_eq_true c2
      go_wp2_with (refine index_arr rfl rfl (N := 18) rfl rfl rfl huA huE (by kernel_rfl) (by decide) rfl ?_)
      go_ret
      exact ⟨rfl, by repeat (first | (with_reducible first | exact HB.out | apply zh | apply zf | apply zg) | exact HB.out)⟩
     ·have c0 : decide (a0_6 < 0) = false := decide_eq_false c2
      have c1 : decide (2147483647 < a0_6) = true := decide_eq_true (by unfold inStat at c; omega)
      go_wp2_with (refine index_arr rfl rfl (N := 18) rfl rfl rfl huA huE (by kernel_rfl) (by decide) rfl ?_)
      go_ret
      exact ⟨rfl, by repeat (first | (with_reducible first | exact HB.out | apply zh | apply zf | apply zg) | exact HB.out)⟩

def impl_nodesOk.l0 : Nat → List (S77) → List (S77) → Int → Int → Option (Bool)
 | 0, _, _, _, _ => none
 | k + 1, x0, x5, x6, x7 => if x7 < x6 then (if 0 ≤ x7 then (if x7 < (x5.length : Int) then ((impl_Node_valid.f k ((rd_T77 x5 x7).f0) ((rd_T77 x5 x7).f1) ((rd_T77 x5 x7).f2) ((rd_T77 x5 x7).f3) ((rd_T77 x5 x7).f4) ((rd_T77 x5 x7).f5) ((rd_T77 x5 x7).f6)).bind fun t255 => (if t255 = true then (if x7 > 0 then (if 0 ≤ (wrap64 (x7 - 1)) then (if (wrap64 (x7 - 1)) < (x0.length : Int) then (if ((Op.bytesLess (((rd_T77 x0 (wrap64 (x7 - 1))).f0).toList) (((rd_T77 x5 x7).f0).toList)) = true) then (impl_nodesOk.l0 k x0 x5 x6 (wrap64 (x7 + 1))) else (some false)) else (none)) else (none)) else (impl_nodesOk.l0 k x0 x5 x6 (wrap64 (x7 + 1)))) else (some false))) else (none)) else (none)) else (some true)
def impl_nodesOk.f (k : Nat) (l0 : List (S77)) : Option (Bool) := impl_nodesOk.l0 k l0 l0 (l0.length : Int) 0
theorem impl_nodesOk.mono_l : ∀ k, (∀ y0 y1 y2 y3, LeO (impl_nodesOk.l0 k y0 y1 y2 y3) (impl_nodesOk.l0 (k + 1) y0 y1 y2 y3))
 | 0 => fun _ _ _ _ r h => by simp [impl_nodesOk.l0] at h
 | k + 1 => by
  have ih0 := impl_nodesOk.mono_l k
  ·intro y0 y1 y2 y3
   unfold impl_nodesOk.l0
   repeat' first
   | (with_reducible exact ih0 _ _ _ _)
   | (with_reducible exact impl_Node_valid.mono _ _ _ _ _ _ _ _)
   | (with_reducible exact LeO.refl _)
   | (with_reducible exact LeO.none _)
   | (with_reducible refine LeO.ite ?_ ?_)
   | (with_reducible refine LeO.bind ?_ (fun _ => ?_))
   | exact ih0 _ _ _ _
   | exact impl_Node_valid.mono _ _ _ _ _ _ _ _
   | exact LeO.none _
   | refine LeO.ite ?_ ?_
   | refine LeO.bind ?_ (fun _ => ?_)
theorem impl_nodesOk.mono : ∀ a0 k, LeO (impl_nodesOk.f k a0) (impl_nodesOk.f (k + 1) a0) := by
 intro a0 k
 have ih0 := impl_nodesOk.mono_l k
 unfold impl_nodesOk.f
 repeat' first
   | (with_reducible exact ih0 _ _ _ _)
   | (with_reducible exact impl_Node_valid.mono _ _ _ _ _ _ _ _)
   | (with_reducible exact LeO.refl _)
   | (with_reducible exact LeO.none _)
   | (with_reducible refine LeO.ite ?_ ?_)
   | (with_reducible refine LeO.bind ?_ (fun _ => ?_))
   | exact ih0 _ _ _ _
   | exact impl_Node_valid.mono _ _ _ _ _ _ _ _
   | exact LeO.none _
   | refine LeO.ite ?_ ?_
   | refine LeO.bind ?_ (fun _ => ?_)
def impl_nodesOk.T4 : Bool × List (List Nat × List Nat) := (true, [([], []), ([0], [0]), ([1], [1]), ([2, 1], [2]), ([3], [3]), ([4, 3], [3, 4]), ([5, 3, 3], [3, 5]), ([6], [6]), ([7, 6], [6, 7]), ([6], [6]), ([6], [6]), ([10, 6], [6, 10]), ([9, 11, 6], [6, 9, 11]), ([12, 6], [6, 12]), ([13, 6], [6, 13]), ([8, 14, 6], [6, 8, 14]), ([6, 15, 3], [3, 6, 15]), ([3, 16], [3, 16])])
def impl_nodesOk.B4 : List Nat := [0, 1, 3, 7, 15, 31, 63, 127, 255, 127, 127, 1151, 3711, 7807, 15999, 32767, 65535, 131071]
theorem impl_nodesOk.tab4 : rtab .any (opsOf Tryd.f39 4) = impl_nodesOk.T4 := by kernel_rfl
theorem impl_nodesOk.bits4 : waitsOk impl_nodesOk.T4.2 impl_nodesOk.B4 = true := by kernel_rfl
set_option maxHeartbeats 8000000 in
set_option maxRecDepth 100000 in
theorem impl_nodesOk.calls (k : Nat) (A0 : Option Addr) (c0 : Nat) (l0 : List (S77)) (r : Bool) (w : World) (hr0 : Kd.C k77 w A0 l0.length l0) (hc0 : l0.length ≤ c0) (h : impl_nodesOk.f k l0 = some r) (hGMAX_ : Go.Proofs.YtfiojiokmkiflaaDoorH.GFMAX w) :
  Calls Tryd.prog 39 #[.slice A0 l0.length c0] w fun e w' => e = .returned (.bool r) ∧ Below w.heap.size w w' := by
 have HGMAX_ := Aside0.mk hGMAX_
 clear hGMAX_
 have hu77 := Tryd.underlying77
 have HR0 := Aside0.mk hr0
 have HC0 := Aside0.mk hc0
 clear hr0 hc0
 have HB := Aside0.mk (Below.refl w.heap.size w)
 have H : (impl_nodesOk.l0 k l0 l0 (l0.length : Int) 0) = some r := h
 clear h
 have H' := Aside0.mk H
 clear H
 go_enter Tryd.func39, Tryd.ntmps39
 go_wp2
 go_loopg [7] k (fun kq v7 w' => ∃ (x7_1 : Int), v7 = .int .i64 x7_1 ∧ Aside0 (impl_nodesOk.l0 kq l0 l0 (l0.length : Int) x7_1 = some r) ∧ Aside0 (kq ≤ k) ∧ Aside0 (Below w.heap.size w w'))
 case atStart => exact ⟨(0), (by first | rfl | (simp [*]; done)), H', ⟨Nat.le_refl _⟩, ⟨by repeat (first | (with_reducible first | exact HB.out | apply zh | apply zf | apply zg) | exact HB.out)⟩⟩
 case round =>
  clear H'
  obtain ⟨x7_1, rfl, HA, HK1, HB⟩ := hrel
  cases gk with
  | zero => exact absurd HA.out (by simp [impl_nodesOk.l0])
  | succ k1 =>
   have H := HA.out
   clear HA
   simp only [impl_nodesOk.l0] at H
   by_cases c2 : x7_1 < (l0.length : Int)
   ·rw [if_pos c2] at H
    have c2b0 : decide (x7_1 < (l0.length : Int)) = true := decide_eq_true c2
    clear c2
    by_cases c3 : 0 ≤ x7_1
    ·rw [if_pos c3] at H
     have c3b0 : decide (0 ≤ x7_1) = true := decide_eq_true c3
     clear c3
     by_cases c4 : x7_1 < (l0.length : Int)
     ·rw [if_pos c4] at H
      have c4b0 : decide (x7_1 < (l0.length : Int)) = true := decide_eq_true c4
      clear c4
      replace H := Option.bind_eq_some_iff.mp H
      obtain ⟨t255, A50, H⟩ := H
      try dsimp only at H
      have A5 := Aside0.mk A50
      clear A50
      by_cases c6 : t255 = true
      ·subst c6
       rw [if_pos rfl] at H
       by_cases c7 : x7_1 > 0
       ·rw [if_pos c7] at H
        have c7b0 : decide (0 < x7_1) = true := decide_eq_true c7
        clear c7
        obtain ⟨ji8, hji8⟩ : ∃ j_ : Int, (wrap64 (x7_1 - 1)) = j_ := ⟨_, rfl⟩
        replace H : (if 0 ≤ (ji8) then (if (ji8) < (l0.length : Int) then (if ((Op.bytesLess (((rd_T77 l0 (ji8)).f0).toList) (((rd_T77 l0 x7_1).f0).toList)) = true) then (impl_nodesOk.l0 k1 l0 l0 (l0.length : Int) (wrap64 (x7_1 + 1))) else (some false)) else (none)) else (none)) = some r := by first | (rw [hji8] at H; exact H) | (simp only [hji8] at H ⊢; exact H)
        (try rw [hji8] at A5)
        have hji8w : (IntKind.i64.wrap (x7_1 - 1)) = ji8 := (zo _).trans hji8
        by_cases c9 : 0 ≤ (ji8)
        ·rw [if_pos c9] at H
         have c9b0 : decide (0 ≤ (ji8)) = true := decide_eq_true c9
         clear c9
         by_cases c10 : (ji8) < (l0.length : Int)
         ·rw [if_pos c10] at H
          have c10b0 : decide ((ji8) < (l0.length : Int)) = true := decide_eq_true c10
          clear c10
          by_cases c11 : ((Op.bytesLess (((rd_T77 l0 (ji8)).f0).toList) (((rd_T77 l0 x7_1).f0).toList)) = true)
          ·rw [if_pos c11] at H
           have c11b0 : (Op.bytesLess (((rd_T77 l0 (ji8)).f0).toList) (((rd_T77 l0 x7_1).f0).toList)) = true := c11
           clear c11
           have H' := Aside0.mk H
           clear H
           have p253 : 0 ≤ (x7_1 : Int) := of_decide_eq_true (by with_reducible assumption)
           have q253 : x7_1 < (l0.length : Int) := of_decide_eq_true (by with_reducible assumption)
           obtain ⟨ad253, e253, hx253_0, hx253_1, hx253_2, hx253_3, hx253_4, hx253_5, hx253_6⟩ := at_T77 (Kd.C_below HR0.out HB.out) x7_1 p253 q253
           cases e253
           replace p253 := eq_true p253
           replace q253 := eq_true q253
           try go_wp2_with (first | ((with_reducible refine zu (N := 4) rfl ?_); refine zy ?hg (N := 4) ?hd (cs := #[.string (⟨#[]⟩ : ByteArray), .string (⟨#[]⟩ : ByteArray), .int .i64 0, .int .i64 0, .int .i64 0, .int .i64 0, .int .i64 0]) (t := 77) ?hr ?_; (case hd => rfl); (case hg => rfl); (case hr => first | (go_simp; done) | (go_simp; rfl)); intro zB hg w12 hbox hb; have n0_ := Aside0.mk (zn (by exact bl HB.out) hb); have n1_ := Aside0.mk (hbox); have n2_ := Aside0.mk ((by rw [hg]; exact (zm (by exact bl HB.out)) : w.heap.size ≤ zB)); have n3_ := Aside0.mk ((by rw [hg]; exact (zm (by exact bl HB.out)) : w.heap.size ≤ zB)); clear HB; have HB := n0_; have zA := n1_; have GW254 := n2_; have zC := n3_; clear n0_ n1_ n2_ n3_; clear hb hbox hg; have zD : w12.cell? ⟨zB, 0, none⟩ = some (.string (⟨#[]⟩ : ByteArray)) := (zc zA.out 0).trans rfl; have zE : w12.cell? ⟨zB, 1, none⟩ = some (.string (⟨#[]⟩ : ByteArray)) := (zc zA.out 1).trans rfl; have zF : w12.cell? ⟨zB, 2, none⟩ = some (.int .i64 0) := (zc zA.out 2).trans rfl; have zG : w12.cell? ⟨zB, 3, none⟩ = some (.int .i64 0) := (zc zA.out 3).trans rfl; have zH : w12.cell? ⟨zB, 4, none⟩ = some (.int .i64 0) := (zc zA.out 4).trans rfl; have zI : w12.cell? ⟨zB, 5, none⟩ = some (.int .i64 0) := (zc zA.out 5).trans rfl; have zJ : w12.cell? ⟨zB, 6, none⟩ = some (.int .i64 0) := (zc zA.out 6).trans rfl; have zK := ze zA.out 0; have zL := ze zA.out 1; have zM := ze zA.out 2; have zN := ze zA.out 3; have zO := ze zA.out 4; have zP := ze zA.out 5; have zQ := ze zA.out 6))
           have n0_ : Aside0 ((((((((w12.setCell ⟨zB, 0, none⟩ (.string ((rd_T77 l0 x7_1).f0))).setCell ⟨zB, 1, none⟩ (.string ((rd_T77 l0 x7_1).f1))).setCell ⟨zB, 2, none⟩ (.int .i64 ((rd_T77 l0 x7_1).f2))).setCell ⟨zB, 3, none⟩ (.int .i64 ((rd_T77 l0 x7_1).f3))).setCell ⟨zB, 4, none⟩ (.int .i64 ((rd_T77 l0 x7_1).f4))).setCell ⟨zB, 5, none⟩ (.int .i64 ((rd_T77 l0 x7_1).f5))).setCell ⟨zB, 6, none⟩ (.int .i64 ((rd_T77 l0 x7_1).f6))).heap[zB]? = some (.cells #[.string ((rd_T77 l0 x7_1).f0), .string ((rd_T77 l0 x7_1).f1), .int .i64 ((rd_T77 l0 x7_1).f2), .int .i64 ((rd_T77 l0 x7_1).f3), .int .i64 ((rd_T77 l0 x7_1).f4), .int .i64 ((rd_T77 l0 x7_1).f5), .int .i64 ((rd_T77 l0 x7_1).f6)] 77 (0, 0))) := ⟨by (with_reducible repeat (first | refine zk ?_ _ | refine zl ?_ | refine zj ?_ _)); refine zv (cs := #[.string ((rd_T77 l0 x7_1).f0), .string ((rd_T77 l0 x7_1).f1), .int .i64 ((rd_T77 l0 x7_1).f2), .int .i64 ((rd_T77 l0 x7_1).f3), .int .i64 ((rd_T77 l0 x7_1).f4), .int .i64 ((rd_T77 l0 x7_1).f5), .int .i64 0]) ?_ 6 _ rfl; (with_reducible repeat (first | refine zk ?_ _ | refine zl ?_ | refine zj ?_ _)); refine zv (cs := #[.string ((rd_T77 l0 x7_1).f0), .string ((rd_T77 l0 x7_1).f1), .int .i64 ((rd_T77 l0 x7_1).f2), .int .i64 ((rd_T77 l0 x7_1).f3), .int .i64 ((rd_T77 l0 x7_1).f4), .int .i64 0, .int .i64 0]) ?_ 5 _ rfl; (with_reducible repeat (first | refine zk ?_ _ | refine zl ?_ | refine zj ?_ _)); refine zv (cs := #[.string ((rd_T77 l0 x7_1).f0), .string ((rd_T77 l0 x7_1).f1), .int .i64 ((rd_T77 l0 x7_1).f2), .int .i64 ((rd_T77 l0 x7_1).f3), .int .i64 0, .int .i64 0, .int .i64 0]) ?_ 4 _ rfl; (with_reducible repeat (first | refine zk ?_ _ | refine zl ?_ | refine zj ?_ _)); refine zv (cs := #[.string ((rd_T77 l0 x7_1).f0), .string ((rd_T77 l0 x7_1).f1), .int .i64 ((rd_T77 l0 x7_1).f2), .int .i64 0, .int .i64 0, .int .i64 0, .int .i64 0]) ?_ 3 _ rfl; (with_reducible repeat (first | refine zk ?_ _ | refine zl ?_ | refine zj ?_ _)); refine zv (cs := #[.string ((rd_T77 l0 x7_1).f0), .string ((rd_T77 l0 x7_1).f1), .int .i64 0, .int .i64 0, .int .i64 0, .int .i64 0, .int .i64 0]) ?_ 2 _ rfl; (with_reducible repeat (first | refine zk ?_ _ | refine zl ?_ | refine zj ?_ _)); refine zv (cs := #[.string ((rd_T77 l0 x7_1).f0), .string (⟨#[]⟩ : ByteArray), .int .i64 0, .int .i64 0, .int .i64 0, .int .i64 0, .int .i64 0]) ?_ 1 _ rfl; (with_reducible repeat (first | refine zk ?_ _ | refine zl ?_ | refine zj ?_ _)); refine zv (cs := #[.string (⟨#[]⟩ : ByteArray), .string (⟨#[]⟩ : ByteArray), .int .i64 0, .int .i64 0, .int .i64 0, .int .i64 0, .int .i64 0]) ?_ 0 _ rfl; (with_reducible repeat (first | refine zk ?_ _ | refine zl ?_ | refine zj ?_ _)); exact zA.out⟩
           have n1_ : Aside0 (Below w.heap.size w (((((((w12.setCell ⟨zB, 0, none⟩ (.string ((rd_T77 l0 x7_1).f0))).setCell ⟨zB, 1, none⟩ (.string ((rd_T77 l0 x7_1).f1))).setCell ⟨zB, 2, none⟩ (.int .i64 ((rd_T77 l0 x7_1).f2))).setCell ⟨zB, 3, none⟩ (.int .i64 ((rd_T77 l0 x7_1).f3))).setCell ⟨zB, 4, none⟩ (.int .i64 ((rd_T77 l0 x7_1).f4))).setCell ⟨zB, 5, none⟩ (.int .i64 ((rd_T77 l0 x7_1).f5))).setCell ⟨zB, 6, none⟩ (.int .i64 ((rd_T77 l0 x7_1).f6)))) := ⟨by repeat (first | (with_reducible first | exact HB.out | apply zh | apply zf | apply zg | refine zd ?_ zC.out) | exact HB.out)⟩
           (try clear zA)
           (try clear HB)
           generalize (((((((w12.setCell ⟨zB, 0, none⟩ (.string ((rd_T77 l0 x7_1).f0))).setCell ⟨zB, 1, none⟩ (.string ((rd_T77 l0 x7_1).f1))).setCell ⟨zB, 2, none⟩ (.int .i64 ((rd_T77 l0 x7_1).f2))).setCell ⟨zB, 3, none⟩ (.int .i64 ((rd_T77 l0 x7_1).f3))).setCell ⟨zB, 4, none⟩ (.int .i64 ((rd_T77 l0 x7_1).f4))).setCell ⟨zB, 5, none⟩ (.int .i64 ((rd_T77 l0 x7_1).f5))).setCell ⟨zB, 6, none⟩ (.int .i64 ((rd_T77 l0 x7_1).f6))) = w14 at n0_ n1_ ⊢
           have zA := n0_
           have HB := n1_
           clear n0_ n1_
           have n0_ := Aside0.mk (zl zA.out)
           have n1_ := Aside0.mk (zg HB.out)
           clear zA
           clear HB
           have zA := n0_
           have HB := n1_
           clear n0_ n1_
           have p256 : 0 ≤ ((ji8) : Int) := of_decide_eq_true (by with_reducible assumption)
           have q256 : (ji8) < (l0.length : Int) := of_decide_eq_true (by with_reducible assumption)
           obtain ⟨ad256, e256, hx256_0, hx256_1, hx256_2, hx256_3, hx256_4, hx256_5, hx256_6⟩ := at_T77 HR0.out (ji8) p256 q256
           have hw256_6 := hx256_6
           have hw256_5 := hx256_5
           have hw256_4 := hx256_4
           have hw256_3 := hx256_3
           have hw256_2 := hx256_2
           have hw256_1 := hx256_1
           have hw256_0 := hx256_0
           obtain rfl : ad253 = ad256 := (by injection e256)
           replace hx256_0 := zb HB.out hx256_0
           replace hx256_1 := zb HB.out hx256_1
           replace hx256_2 := zb HB.out hx256_2
           replace hx256_3 := zb HB.out hx256_3
           replace hx256_4 := zb HB.out hx256_4
           replace hx256_5 := zb HB.out hx256_5
           replace hx256_6 := zb HB.out hx256_6
           replace p256 := eq_true p256
           replace q256 := eq_true q256
           refine start_ (n := 18) (S := fun w' => b77r w' zB (rd_T77 l0 x7_1) (e77 w' (ad253.add (((ji8)).toNat * 7)) (rd_T77 l0 (ji8)))) (ds := []) #[false, false, false, false, false, false, false, false, false, false, false, false, false, false, false, false, false, false] (by kernel_rfl) rfl rfl ⟨(zc zA.out 0).trans rfl, (zc zA.out 1).trans rfl, (zc zA.out 2).trans rfl, (zc zA.out 3).trans rfl, (zc zA.out 4).trans rfl, (zc zA.out 5).trans rfl, (zc zA.out 6).trans rfl, (zb HB.out hw256_0), (zb HB.out hw256_1), (zb HB.out hw256_2), (zb HB.out hw256_3), (zb HB.out hw256_4), (zb HB.out hw256_5), (zb HB.out hw256_6)⟩ (fun hHeld => ?_); refine with_tabW impl_nodesOk.tab4 impl_nodesOk.bits4 (fun HT_ HW_ => ?_)
           generalize w14.drew = w15 at zA HB hx256_0 hx256_1 hx256_2 hx256_3 hx256_4 hx256_5 hx256_6 hHeld ⊢
           refine ta 0 12 rfl rfl (take_ofW HT_.out HW_.out (by kernel_rfl)) (fun _ _ _ _ h => h) (by rfl) hHeld ⟨_, _, by rintro w' ⟨s0, s1, s2, s3, s4, s5, s6, s7, s8, s9, s10, s11, s12, s13⟩; go_simp; rfl, by simp only [pt, ps, p0, p1, zo, zp]; rfl, ?_⟩
           refine one_ (i := 1) (N := some 13) #[true, true, false, false, false, false, false, false, false, false, false, false, false, false, false, false, false, false] rfl rfl (one_of HT_.out (by kernel_rfl)) (by decide) (fun K hK => ?_)
           refine goes_ Tryd.func91 (by kernel_rfl) rfl #[.agg #[.string ((rd_T77 l0 x7_1).f0), .string ((rd_T77 l0 x7_1).f1), .int .i64 ((rd_T77 l0 x7_1).f2), .int .i64 ((rd_T77 l0 x7_1).f3), .int .i64 ((rd_T77 l0 x7_1).f4), .int .i64 ((rd_T77 l0 x7_1).f5), .int .i64 ((rd_T77 l0 x7_1).f6)]] (by rfl) rfl rfl (by (try simp only [List.map_toArray, List.map_cons, List.map_nil]); first | done | rfl) ?_
           with_reducible refine (impl_Node_valid.calls k1 ((rd_T77 l0 x7_1).f0) ((rd_T77 l0 x7_1).f1) ((rd_T77 l0 x7_1).f2) ((rd_T77 l0 x7_1).f3) ((rd_T77 l0 x7_1).f4) ((rd_T77 l0 x7_1).f5) ((rd_T77 l0 x7_1).f6) true _ A5.out ?globMAX_).mono ?_; (case globMAX_ => exact Go.Proofs.YtfiojiokmkiflaaDoorH.GFMAX.below HGMAX_.out (by repeat (first | (with_reducible first | exact HB.out | exact Below.refl _ _ | apply zh | apply zf | apply zg | refine zd ?_ (Aside0.out (by assumption))) | exact HB.out)))
           rintro e w16 ⟨rfl, hb⟩
           refine ⟨_, rfl, ?_⟩
           have n0_ := Aside0.mk (zi (g := zB) (o := .cells #[.string ((rd_T77 l0 x7_1).f0), .string ((rd_T77 l0 x7_1).f1), .int .i64 ((rd_T77 l0 x7_1).f2), .int .i64 ((rd_T77 l0 x7_1).f3), .int .i64 ((rd_T77 l0 x7_1).f4), .int .i64 ((rd_T77 l0 x7_1).f5), .int .i64 ((rd_T77 l0 x7_1).f6)] 77 (0, 0)) (BL zA.out) hb)
           have n1_ := Aside0.mk (zn (by repeat (first | (with_reducible first | exact HB.out | apply zh | apply zf | apply zg | refine zd ?_ zC.out) | exact HB.out)) hb)
           clear zA
           clear HB
           have zA := n0_
           have HB := n1_
           clear n0_ n1_
           (try clear hb)
           (try clear hb2)
           (try clear hk)
           (try clear hi)
           refine hK.out _ _ ⟨(zc zA.out 0).trans rfl, (zc zA.out 1).trans rfl, (zc zA.out 2).trans rfl, (zc zA.out 3).trans rfl, (zc zA.out 4).trans rfl, (zc zA.out 5).trans rfl, (zc zA.out 6).trans rfl, (zb HB.out hw256_0), (zb HB.out hw256_1), (zb HB.out hw256_2), (zb HB.out hw256_3), (zb HB.out hw256_4), (zb HB.out hw256_5), (zb HB.out hw256_6)⟩ (fun hHeld => ?_)
           clear hK K
           refine norm_ (a' := ?_) ?_ ?_
           rotate_left
           ·show Act.put _ (some 13) _ = _
            simp only [pt, ps, p0, p1, zo, zp]
            rfl
           refine pu 2 14 rfl rfl (zq HT_.out (by kernel_rfl)) (fun _ _ _ _ h => h) (by rfl) ⟨_, _, fun w' => by go_simp; rfl, by simp only [pt, ps, p0, p1, zo, zp]; rfl, ?_⟩
           refine pu 3 15 rfl rfl (zq HT_.out (by kernel_rfl)) (fun _ _ _ _ h => h) (by rfl) ⟨_, _, fun w' => by go_simp; rfl, by simp only [pt, ps, p0, p1, zo, zp]; rfl, ?_⟩
           refine pu 4 16 rfl rfl (zq HT_.out (by kernel_rfl)) (fun _ _ _ _ h => h) (by rfl) ⟨_, _, fun w' => by go_simp; rfl, by simp only [pt, ps, p0, p1, zo, zp]; rfl, ?_⟩
           refine pu 5 17 rfl rfl (zq HT_.out (by kernel_rfl)) (fun _ _ _ _ h => h) (by rfl) ⟨_, _, fun w' => by go_simp; rfl, by simp only [pt, ps, p0, p1, zo, zp]; rfl, ?_⟩
           refine pu 6 18 rfl rfl (zq HT_.out (by kernel_rfl)) (fun _ _ _ _ h => h) (by rfl) ⟨_, _, fun w' => by go_simp; rfl, by simp only [pt, ps, p0, p1, zo, zp]; rfl, ?_⟩
           refine pu 7 19 rfl rfl (zq HT_.out (by kernel_rfl)) (fun _ _ _ _ h => h) (by rfl) ⟨_, _, fun w' => by go_simp; rfl, by simp only [pt, ps, p0, p1, zo, zp]; rfl, ?_⟩
           refine pu 9 21 rfl rfl (zq HT_.out (by kernel_rfl)) (fun _ _ _ _ h => h) (by rfl) ⟨_, _, fun w' => by go_simp; rfl, by simp only [pt, ps, p0, p1, zo, zp]; rfl, ?_⟩
           refine pu 10 22 rfl rfl (zq HT_.out (by kernel_rfl)) (fun _ _ _ _ h => h) (by rfl) ⟨_, _, fun w' => by go_simp; rfl, by simp only [pt, ps, p0, p1, zo, zp]; rfl, ?_⟩
           refine pu 11 23 rfl rfl (zq HT_.out (by kernel_rfl)) (fun _ _ _ _ h => h) (by rfl) ⟨_, _, fun w' => by go_simp; rfl, by simp only [pt, ps, p0, p1, zo, zp]; rfl, ?_⟩
           refine pu 12 24 rfl rfl (zq HT_.out (by kernel_rfl)) (fun _ _ _ _ h => h) (by rfl) ⟨_, _, fun w' => by go_simp; rfl, by simp only [pt, ps, p0, p1, zo, zp]; rfl, ?_⟩
           refine pu 13 25 rfl rfl (zq HT_.out (by kernel_rfl)) (fun _ _ _ _ h => h) (by rfl) ⟨_, _, fun w' => by go_simp; rfl, by simp only [pt, ps, p0, p1, zo, zp]; rfl, ?_⟩
           refine ta 8 20 rfl rfl (take_ofW HT_.out HW_.out (by kernel_rfl)) (fun _ _ _ _ h => h) (by rfl) hHeld ⟨_, _, by rintro w' ⟨s0, s1, s2, s3, s4, s5, s6, s7, s8, s9, s10, s11, s12, s13⟩; go_simp; rfl, by simp only [pt, ps, p0, p1, zo, zp]; rfl, ?_⟩
           refine ta 14 26 rfl rfl (take_ofW HT_.out HW_.out (by kernel_rfl)) (fun _ _ _ _ h => h) (by rfl) hHeld ⟨_, _, by rintro w' ⟨s0, s1, s2, s3, s4, s5, s6, s7, s8, s9, s10, s11, s12, s13⟩; go_simp; rfl, by simp only [pt, ps, p0, p1, zo, zp]; rfl, ?_⟩
           refine pu 15 27 rfl rfl (zq HT_.out (by kernel_rfl)) (fun _ _ _ _ h => h) (by rfl) ⟨_, _, fun w' => by go_simp; rfl, by simp only [pt, ps, p0, p1, zo, zp]; rfl, ?_⟩
           refine pu 16 28 rfl rfl (zq HT_.out (by kernel_rfl)) (fun _ _ _ _ h => h) (by rfl) ⟨_, _, fun w' => by go_simp; rfl, by simp only [pt, ps, p0, p1, zo, zp]; rfl, ?_⟩
           refine pu 17 29 rfl rfl (zq HT_.out (by kernel_rfl)) (fun _ _ _ _ h => h) (by rfl) ⟨_, _, fun w' => by go_simp; rfl, by simp only [pt, ps, p0, p1, zo, zp]; rfl, ?_⟩
           refine done_ (done_of HT_.out (by kernel_rfl)) ?_
           try go_wp2
           go_roundg k1
           case measure => have := HK1.out; omega
           case rel => exact ⟨(wrap64 (x7_1 + 1)), (by first | rfl | (simp [*]; done)), H', ⟨by have := HK1.out; omega⟩, ⟨by repeat (first | (with_reducible first | exact HB.out | apply zh | apply zf | apply zg | refine zd ?_ zC.out) | exact HB.out)⟩⟩
          ·rw [if_neg c11] at H
           have c11b0 : (Op.bytesLess (((rd_T77 l0 (ji8)).f0).toList) (((rd_T77 l0 x7_1).f0).toList)) = false := by simpa using c11
           clear c11
           obtain rfl := Option.some.inj H
           have p253 : 0 ≤ (x7_1 : Int) := of_decide_eq_true (by with_reducible assumption)
           have q253 : x7_1 < (l0.length : Int) := of_decide_eq_true (by with_reducible assumption)
           obtain ⟨ad253, e253, hx253_0, hx253_1, hx253_2, hx253_3, hx253_4, hx253_5, hx253_6⟩ := at_T77 (Kd.C_below HR0.out HB.out) x7_1 p253 q253
           cases e253
           replace p253 := eq_true p253
           replace q253 := eq_true q253
           try go_wp2_with (first | ((with_reducible refine zu (N := 4) rfl ?_); refine zy ?hg (N := 4) ?hd (cs := #[.string (⟨#[]⟩ : ByteArray), .string (⟨#[]⟩ : ByteArray), .int .i64 0, .int .i64 0, .int .i64 0, .int .i64 0, .int .i64 0]) (t := 77) ?hr ?_; (case hd => rfl); (case hg => rfl); (case hr => first | (go_simp; done) | (go_simp; rfl)); intro zB hg w17 hbox hb; have n0_ := Aside0.mk (zn (by exact bl HB.out) hb); have n1_ := Aside0.mk (hbox); have n2_ := Aside0.mk ((by rw [hg]; exact (zm (by exact bl HB.out)) : w.heap.size ≤ zB)); have n3_ := Aside0.mk ((by rw [hg]; exact (zm (by exact bl HB.out)) : w.heap.size ≤ zB)); clear HB; have HB := n0_; have zA := n1_; have GW254 := n2_; have zC := n3_; clear n0_ n1_ n2_ n3_; clear hb hbox hg; have zR : w17.cell? ⟨zB, 0, none⟩ = some (.string (⟨#[]⟩ : ByteArray)) := (zc zA.out 0).trans rfl; have zS : w17.cell? ⟨zB, 1, none⟩ = some (.string (⟨#[]⟩ : ByteArray)) := (zc zA.out 1).trans rfl; have zT : w17.cell? ⟨zB, 2, none⟩ = some (.int .i64 0) := (zc zA.out 2).trans rfl; have zU : w17.cell? ⟨zB, 3, none⟩ = some (.int .i64 0) := (zc zA.out 3).trans rfl; have zV : w17.cell? ⟨zB, 4, none⟩ = some (.int .i64 0) := (zc zA.out 4).trans rfl; have zW : w17.cell? ⟨zB, 5, none⟩ = some (.int .i64 0) := (zc zA.out 5).trans rfl; have zX : w17.cell? ⟨zB, 6, none⟩ = some (.int .i64 0) := (zc zA.out 6).trans rfl; have zY := ze zA.out 0; have zZ := ze zA.out 1; have zab := ze zA.out 2; have zbb := ze zA.out 3; have zcb := ze zA.out 4; have zdb := ze zA.out 5; have zeb := ze zA.out 6))
           have n0_ : Aside0 ((((((((w17.setCell ⟨zB, 0, none⟩ (.string ((rd_T77 l0 x7_1).f0))).setCell ⟨zB, 1, none⟩ (.string ((rd_T77 l0 x7_1).f1))).setCell ⟨zB, 2, none⟩ (.int .i64 ((rd_T77 l0 x7_1).f2))).setCell ⟨zB, 3, none⟩ (.int .i64 ((rd_T77 l0 x7_1).f3))).setCell ⟨zB, 4, none⟩ (.int .i64 ((rd_T77 l0 x7_1).f4))).setCell ⟨zB, 5, none⟩ (.int .i64 ((rd_T77 l0 x7_1).f5))).setCell ⟨zB, 6, none⟩ (.int .i64 ((rd_T77 l0 x7_1).f6))).heap[zB]? = some (.cells #[.string ((rd_T77 l0 x7_1).f0), .string ((rd_T77 l0 x7_1).f1), .int .i64 ((rd_T77 l0 x7_1).f2), .int .i64 ((rd_T77 l0 x7_1).f3), .int .i64 ((rd_T77 l0 x7_1).f4), .int .i64 ((rd_T77 l0 x7_1).f5), .int .i64 ((rd_T77 l0 x7_1).f6)] 77 (0, 0))) := ⟨by (with_reducible repeat (first | refine zk ?_ _ | refine zl ?_ | refine zj ?_ _)); refine zv (cs := #[.string ((rd_T77 l0 x7_1).f0), .string ((rd_T77 l0 x7_1).f1), .int .i64 ((rd_T77 l0 x7_1).f2), .int .i64 ((rd_T77 l0 x7_1).f3), .int .i64 ((rd_T77 l0 x7_1).f4), .int .i64 ((rd_T77 l0 x7_1).f5), .int .i64 0]) ?_ 6 _ rfl; (with_reducible repeat (first | refine zk ?_ _ | refine zl ?_ | refine zj ?_ _)); refine zv (cs := #[.string ((rd_T77 l0 x7_1).f0), .string ((rd_T77 l0 x7_1).f1), .int .i64 ((rd_T77 l0 x7_1).f2), .int .i64 ((rd_T77 l0 x7_1).f3), .int .i64 ((rd_T77 l0 x7_1).f4), .int .i64 0, .int .i64 0]) ?_ 5 _ rfl; (with_reducible repeat (first | refine zk ?_ _ | refine zl ?_ | refine zj ?_ _)); refine zv (cs := #[.string ((rd_T77 l0 x7_1).f0), .string ((rd_T77 l0 x7_1).f1), .int .i64 ((rd_T77 l0 x7_1).f2), .int .i64 ((rd_T77 l0 x7_1).f3), .int .i64 0, .int .i64 0, .int .i64 0]) ?_ 4 _ rfl; (with_reducible repeat (first | refine zk ?_ _ | refine zl ?_ | refine zj ?_ _)); refine zv (cs := #[.string ((rd_T77 l0 x7_1).f0), .string ((rd_T77 l0 x7_1).f1), .int .i64 ((rd_T77 l0 x7_1).f2), .int .i64 0, .int .i64 0, .int .i64 0, .int .i64 0]) ?_ 3 _ rfl; (with_reducible repeat (first | refine zk ?_ _ | refine zl ?_ | refine zj ?_ _)); refine zv (cs := #[.string ((rd_T77 l0 x7_1).f0), .string ((rd_T77 l0 x7_1).f1), .int .i64 0, .int .i64 0, .int .i64 0, .int .i64 0, .int .i64 0]) ?_ 2 _ rfl; (with_reducible repeat (first | refine zk ?_ _ | refine zl ?_ | refine zj ?_ _)); refine zv (cs := #[.string ((rd_T77 l0 x7_1).f0), .string (⟨#[]⟩ : ByteArray), .int .i64 0, .int .i64 0, .int .i64 0, .int .i64 0, .int .i64 0]) ?_ 1 _ rfl; (with_reducible repeat (first | refine zk ?_ _ | refine zl ?_ | refine zj ?_ _)); refine zv (cs := #[.string (⟨#[]⟩ : ByteArray), .string (⟨#[]⟩ : ByteArray), .int .i64 0, .int .i64 0, .int .i64 0, .int .i64 0, .int .i64 0]) ?_ 0 _ rfl; (with_reducible repeat (first | refine zk ?_ _ | refine zl ?_ | refine zj ?_ _)); exact zA.out⟩
           have n1_ : Aside0 (Below w.heap.size w (((((((w17.setCell ⟨zB, 0, none⟩ (.string ((rd_T77 l0 x7_1).f0))).setCell ⟨zB, 1, none⟩ (.string ((rd_T77 l0 x7_1).f1))).setCell ⟨zB, 2, none⟩ (.int .i64 ((rd_T77 l0 x7_1).f2))).setCell ⟨zB, 3, none⟩ (.int .i64 ((rd_T77 l0 x7_1).f3))).setCell ⟨zB, 4, none⟩ (.int .i64 ((rd_T77 l0 x7_1).f4))).setCell ⟨zB, 5, none⟩ (.int .i64 ((rd_T77 l0 x7_1).f5))).setCell ⟨zB, 6, none⟩ (.int .i64 ((rd_T77 l0 x7_1).f6)))) := ⟨by repeat (first | (with_reducible first | exact HB.out | apply zh | apply zf | apply zg | refine zd ?_ zC.out) | exact HB.out)⟩
           (try clear zA)
           (try clear HB)
           generalize (((((((w17.setCell ⟨zB, 0, none⟩ (.string ((rd_T77 l0 x7_1).f0))).setCell ⟨zB, 1, none⟩ (.string ((rd_T77 l0 x7_1).f1))).setCell ⟨zB, 2, none⟩ (.int .i64 ((rd_T77 l0 x7_1).f2))).setCell ⟨zB, 3, none⟩ (.int .i64 ((rd_T77 l0 x7_1).f3))).setCell ⟨zB, 4, none⟩ (.int .i64 ((rd_T77 l0 x7_1).f4))).setCell ⟨zB, 5, none⟩ (.int .i64 ((rd_T77 l0 x7_1).f5))).setCell ⟨zB, 6, none⟩ (.int .i64 ((rd_T77 l0 x7_1).f6))) = w19 at n0_ n1_ ⊢
           have zA := n0_
           have HB := n1_
           clear n0_ n1_
           have n0_ := Aside0.mk (zl zA.out)
           have n1_ := Aside0.mk (zg HB.out)
           clear zA
           clear HB
           have zA := n0_
           have HB := n1_
           clear n0_ n1_
           have p256 : 0 ≤ ((ji8) : Int) := of_decide_eq_true (by with_reducible assumption)
           have q256 : (ji8) < (l0.length : Int) := of_decide_eq_true (by with_reducible assumption)
           obtain ⟨ad256, e256, hx256_0, hx256_1, hx256_2, hx256_3, hx256_4, hx256_5, hx256_6⟩ := at_T77 HR0.out (ji8) p256 q256
           have hw256_6 := hx256_6
           have hw256_5 := hx256_5
           have hw256_4 := hx256_4
           have hw256_3 := hx256_3
           have hw256_2 := hx256_2
           have hw256_1 := hx256_1
           have hw256_0 := hx256_0
           obtain rfl : ad253 = ad256 := (by injection e256)
           replace hx256_0 := zb HB.out hx256_0
           replace hx256_1 := zb HB.out hx256_1
           replace hx256_2 := zb HB.out hx256_2
           replace hx256_3 := zb HB.out hx256_3
           replace hx256_4 := zb HB.out hx256_4
           replace hx256_5 := zb HB.out hx256_5
           replace hx256_6 := zb HB.out hx256_6
           replace p256 := eq_true p256
           replace q256 := eq_true q256
           refine start_ (n := 18) (S := fun w' => b77r w' zB (rd_T77 l0 x7_1) (e77 w' (ad253.add (((ji8)).toNat * 7)) (rd_T77 l0 (ji8)))) (ds := []) #[false, false, false, false, false, false, false, false, false, false, false, false, false, false, false, false, false, false] (by kernel_rfl) rfl rfl ⟨(zc zA.out 0).trans rfl, (zc zA.out 1).trans rfl, (zc zA.out 2).trans rfl, (zc zA.out 3).trans rfl, (zc zA.out 4).trans rfl, (zc zA.out 5).trans rfl, (zc zA.out 6).trans rfl, (zb HB.out hw256_0), (zb HB.out hw256_1), (zb HB.out hw256_2), (zb HB.out hw256_3), (zb HB.out hw256_4), (zb HB.out hw256_5), (zb HB.out hw256_6)⟩ (fun hHeld => ?_); refine with_tabW impl_nodesOk.tab4 impl_nodesOk.bits4 (fun HT_ HW_ => ?_)
           generalize w19.drew = w20 at zA HB hx256_0 hx256_1 hx256_2 hx256_3 hx256_4 hx256_5 hx256_6 hHeld ⊢
           refine ta 0 12 rfl rfl (take_ofW HT_.out HW_.out (by kernel_rfl)) (fun _ _ _ _ h => h) (by rfl) hHeld ⟨_, _, by rintro w' ⟨s0, s1, s2, s3, s4, s5, s6, s7, s8, s9, s10, s11, s12, s13⟩; go_simp; rfl, by simp only [pt, ps, p0, p1, zo, zp]; rfl, ?_⟩
           refine one_ (i := 1) (N := some 13) #[true, true, false, false, false, false, false, false, false, false, false, false, false, false, false, false, false, false] rfl rfl (one_of HT_.out (by kernel_rfl)) (by decide) (fun K hK => ?_)
           refine goes_ Tryd.func91 (by kernel_rfl) rfl #[.agg #[.string ((rd_T77 l0 x7_1).f0), .string ((rd_T77 l0 x7_1).f1), .int .i64 ((rd_T77 l0 x7_1).f2), .int .i64 ((rd_T77 l0 x7_1).f3), .int .i64 ((rd_T77 l0 x7_1).f4), .int .i64 ((rd_T77 l0 x7_1).f5), .int .i64 ((rd_T77 l0 x7_1).f6)]] (by rfl) rfl rfl (by (try simp only [List.map_toArray, List.map_cons, List.map_nil]); first | done | rfl) ?_
           with_reducible refine (impl_Node_valid.calls k1 ((rd_T77 l0 x7_1).f0) ((rd_T77 l0 x7_1).f1) ((rd_T77 l0 x7_1).f2) ((rd_T77 l0 x7_1).f3) ((rd_T77 l0 x7_1).f4) ((rd_T77 l0 x7_1).f5) ((rd_T77 l0 x7_1).f6) true _ A5.out ?globMAX_).mono ?_; (case globMAX_ => exact Go.Proofs.YtfiojiokmkiflaaDoorH.GFMAX.below HGMAX_.out (by repeat (first | (with_reducible first | exact HB.out | exact Below.refl _ _ | apply zh | apply zf | apply zg | refine zd ?_ (Aside0.out (by assumption))) | exact HB.out)))
           rintro e w21 ⟨rfl, hb⟩
           refine ⟨_, rfl, ?_⟩
           have n0_ := Aside0.mk (zi (g := zB) (o := .cells #[.string ((rd_T77 l0 x7_1).f0), .string ((rd_T77 l0 x7_1).f1), .int .i64 ((rd_T77 l0 x7_1).f2), .int .i64 ((rd_T77 l0 x7_1).f3), .int .i64 ((rd_T77 l0 x7_1).f4), .int .i64 ((rd_T77 l0 x7_1).f5), .int .i64 ((rd_T77 l0 x7_1).f6)] 77 (0, 0)) (BL zA.out) hb)
           have n1_ := Aside0.mk (zn (by repeat (first | (with_reducible first | exact HB.out | apply zh | apply zf | apply zg | refine zd ?_ zC.out) | exact HB.out)) hb)
           clear zA
           clear HB
           have zA := n0_
           have HB := n1_
           clear n0_ n1_
           (try clear hb)
           (try clear hb2)
           (try clear hk)
           (try clear hi)
           refine hK.out _ _ ⟨(zc zA.out 0).trans rfl, (zc zA.out 1).trans rfl, (zc zA.out 2).trans rfl, (zc zA.out 3).trans rfl, (zc zA.out 4).trans rfl, (zc zA.out 5).trans rfl, (zc zA.out 6).trans rfl, (zb HB.out hw256_0), (zb HB.out hw256_1), (zb HB.out hw256_2), (zb HB.out hw256_3), (zb HB.out hw256_4), (zb HB.out hw256_5), (zb HB.out hw256_6)⟩ (fun hHeld => ?_)
           clear hK K
           refine norm_ (a' := ?_) ?_ ?_
           rotate_left
           ·show Act.put _ (some 13) _ = _
            simp only [pt, ps, p0, p1, zo, zp]
            rfl
           refine pu 2 14 rfl rfl (zq HT_.out (by kernel_rfl)) (fun _ _ _ _ h => h) (by rfl) ⟨_, _, fun w' => by go_simp; rfl, by simp only [pt, ps, p0, p1, zo, zp]; rfl, ?_⟩
           refine pu 3 15 rfl rfl (zq HT_.out (by kernel_rfl)) (fun _ _ _ _ h => h) (by rfl) ⟨_, _, fun w' => by go_simp; rfl, by simp only [pt, ps, p0, p1, zo, zp]; rfl, ?_⟩
           refine pu 4 16 rfl rfl (zq HT_.out (by kernel_rfl)) (fun _ _ _ _ h => h) (by rfl) ⟨_, _, fun w' => by go_simp; rfl, by simp only [pt, ps, p0, p1, zo, zp]; rfl, ?_⟩
           refine pu 5 17 rfl rfl (zq HT_.out (by kernel_rfl)) (fun _ _ _ _ h => h) (by rfl) ⟨_, _, fun w' => by go_simp; rfl, by simp only [pt, ps, p0, p1, zo, zp]; rfl, ?_⟩
           refine pu 6 18 rfl rfl (zq HT_.out (by kernel_rfl)) (fun _ _ _ _ h => h) (by rfl) ⟨_, _, fun w' => by go_simp; rfl, by simp only [pt, ps, p0, p1, zo, zp]; rfl, ?_⟩
           refine pu 7 19 rfl rfl (zq HT_.out (by kernel_rfl)) (fun _ _ _ _ h => h) (by rfl) ⟨_, _, fun w' => by go_simp; rfl, by simp only [pt, ps, p0, p1, zo, zp]; rfl, ?_⟩
           refine pu 9 21 rfl rfl (zq HT_.out (by kernel_rfl)) (fun _ _ _ _ h => h) (by rfl) ⟨_, _, fun w' => by go_simp; rfl, by simp only [pt, ps, p0, p1, zo, zp]; rfl, ?_⟩
           refine pu 10 22 rfl rfl (zq HT_.out (by kernel_rfl)) (fun _ _ _ _ h => h) (by rfl) ⟨_, _, fun w' => by go_simp; rfl, by simp only [pt, ps, p0, p1, zo, zp]; rfl, ?_⟩
           refine pu 11 23 rfl rfl (zq HT_.out (by kernel_rfl)) (fun _ _ _ _ h => h) (by rfl) ⟨_, _, fun w' => by go_simp; rfl, by simp only [pt, ps, p0, p1, zo, zp]; rfl, ?_⟩
           refine pu 12 24 rfl rfl (zq HT_.out (by kernel_rfl)) (fun _ _ _ _ h => h) (by rfl) ⟨_, _, fun w' => by go_simp; rfl, by simp only [pt, ps, p0, p1, zo, zp]; rfl, ?_⟩
           refine pu 13 25 rfl rfl (zq HT_.out (by kernel_rfl)) (fun _ _ _ _ h => h) (by rfl) ⟨_, _, fun w' => by go_simp; rfl, by simp only [pt, ps, p0, p1, zo, zp]; rfl, ?_⟩
           refine ta 8 20 rfl rfl (take_ofW HT_.out HW_.out (by kernel_rfl)) (fun _ _ _ _ h => h) (by rfl) hHeld ⟨_, _, by rintro w' ⟨s0, s1, s2, s3, s4, s5, s6, s7, s8, s9, s10, s11, s12, s13⟩; go_simp; rfl, by simp only [pt, ps, p0, p1, zo, zp]; rfl, ?_⟩
           refine ta 14 26 rfl rfl (take_ofW HT_.out HW_.out (by kernel_rfl)) (fun _ _ _ _ h => h) (by rfl) hHeld ⟨_, _, by rintro w' ⟨s0, s1, s2, s3, s4, s5, s6, s7, s8, s9, s10, s11, s12, s13⟩; go_simp; rfl, by simp only [pt, ps, p0, p1, zo, zp]; rfl, ?_⟩
           refine pu 15 27 rfl rfl (zq HT_.out (by kernel_rfl)) (fun _ _ _ _ h => h) (by rfl) ⟨_, _, fun w' => by go_simp; rfl, by simp only [pt, ps, p0, p1, zo, zp]; rfl, ?_⟩
           refine pu 16 28 rfl rfl (zq HT_.out (by kernel_rfl)) (fun _ _ _ _ h => h) (by rfl) ⟨_, _, fun w' => by go_simp; rfl, by simp only [pt, ps, p0, p1, zo, zp]; rfl, ?_⟩
           refine pu 17 29 rfl rfl (zq HT_.out (by kernel_rfl)) (fun _ _ _ _ h => h) (by rfl) ⟨_, _, fun w' => by go_simp; rfl, by simp only [pt, ps, p0, p1, zo, zp]; rfl, ?_⟩
           refine done_ (done_of HT_.out (by kernel_rfl)) ?_
           try go_wp2
           go_ret
           exact ⟨by first | rfl | (simp [errW_none, errW_some] <;> rfl) | (simp only [← hji8]; first | rfl | (simp [errW_none, errW_some] <;> rfl)) | (simp [*, errW_none, errW_some] <;> rfl), by repeat (first | (with_reducible first | exact HB.out | apply zh | apply zf | apply zg | refine zd ?_ zC.out) | exact HB.out)⟩
         ·rw [if_neg c10] at H
          exact absurd H (by simp)
        ·rw [if_neg c9] at H
         exact absurd H (by simp)
       ·rw [if_neg c7] at H
        have c7b0 : decide (0 < x7_1) = false := decide_eq_false c7
        clear c7
        have H' := Aside0.mk H
        clear H
        have p253 : 0 ≤ (x7_1 : Int) := of_decide_eq_true (by with_reducible assumption)
        have q253 : x7_1 < (l0.length : Int) := of_decide_eq_true (by with_reducible assumption)
        obtain ⟨ad253, e253, hx253_0, hx253_1, hx253_2, hx253_3, hx253_4, hx253_5, hx253_6⟩ := at_T77 (Kd.C_below HR0.out HB.out) x7_1 p253 q253
        cases e253
        replace p253 := eq_true p253
        replace q253 := eq_true q253
        try go_wp2_with (first | ((with_reducible refine zu (N := 4) rfl ?_); refine zy ?hg (N := 4) ?hd (cs := #[.string (⟨#[]⟩ : ByteArray), .string (⟨#[]⟩ : ByteArray), .int .i64 0, .int .i64 0, .int .i64 0, .int .i64 0, .int .i64 0]) (t := 77) ?hr ?_; (case hd => rfl); (case hg => rfl); (case hr => first | (go_simp; done) | (go_simp; rfl)); intro zB hg w22 hbox hb; have n0_ := Aside0.mk (zn (by exact bl HB.out) hb); have n1_ := Aside0.mk (hbox); have n2_ := Aside0.mk ((by rw [hg]; exact (zm (by exact bl HB.out)) : w.heap.size ≤ zB)); have n3_ := Aside0.mk ((by rw [hg]; exact (zm (by exact bl HB.out)) : w.heap.size ≤ zB)); clear HB; have HB := n0_; have zA := n1_; have GW254 := n2_; have zC := n3_; clear n0_ n1_ n2_ n3_; clear hb hbox hg; have zfb : w22.cell? ⟨zB, 0, none⟩ = some (.string (⟨#[]⟩ : ByteArray)) := (zc zA.out 0).trans rfl; have zgb : w22.cell? ⟨zB, 1, none⟩ = some (.string (⟨#[]⟩ : ByteArray)) := (zc zA.out 1).trans rfl; have zhb : w22.cell? ⟨zB, 2, none⟩ = some (.int .i64 0) := (zc zA.out 2).trans rfl; have zib : w22.cell? ⟨zB, 3, none⟩ = some (.int .i64 0) := (zc zA.out 3).trans rfl; have zjb : w22.cell? ⟨zB, 4, none⟩ = some (.int .i64 0) := (zc zA.out 4).trans rfl; have zkb : w22.cell? ⟨zB, 5, none⟩ = some (.int .i64 0) := (zc zA.out 5).trans rfl; have zlb : w22.cell? ⟨zB, 6, none⟩ = some (.int .i64 0) := (zc zA.out 6).trans rfl; have zmb := ze zA.out 0; have znb := ze zA.out 1; have zob := ze zA.out 2; have zpb := ze zA.out 3; have zqb := ze zA.out 4; have zrb := ze zA.out 5; have zsb := ze zA.out 6))
        have n0_ : Aside0 ((((((((w22.setCell ⟨zB, 0, none⟩ (.string ((rd_T77 l0 x7_1).f0))).setCell ⟨zB, 1, none⟩ (.string ((rd_T77 l0 x7_1).f1))).setCell ⟨zB, 2, none⟩ (.int .i64 ((rd_T77 l0 x7_1).f2))).setCell ⟨zB, 3, none⟩ (.int .i64 ((rd_T77 l0 x7_1).f3))).setCell ⟨zB, 4, none⟩ (.int .i64 ((rd_T77 l0 x7_1).f4))).setCell ⟨zB, 5, none⟩ (.int .i64 ((rd_T77 l0 x7_1).f5))).setCell ⟨zB, 6, none⟩ (.int .i64 ((rd_T77 l0 x7_1).f6))).heap[zB]? = some (.cells #[.string ((rd_T77 l0 x7_1).f0), .string ((rd_T77 l0 x7_1).f1), .int .i64 ((rd_T77 l0 x7_1).f2), .int .i64 ((rd_T77 l0 x7_1).f3), .int .i64 ((rd_T77 l0 x7_1).f4), .int .i64 ((rd_T77 l0 x7_1).f5), .int .i64 ((rd_T77 l0 x7_1).f6)] 77 (0, 0))) := ⟨by (with_reducible repeat (first | refine zk ?_ _ | refine zl ?_ | refine zj ?_ _)); refine zv (cs := #[.string ((rd_T77 l0 x7_1).f0), .string ((rd_T77 l0 x7_1).f1), .int .i64 ((rd_T77 l0 x7_1).f2), .int .i64 ((rd_T77 l0 x7_1).f3), .int .i64 ((rd_T77 l0 x7_1).f4), .int .i64 ((rd_T77 l0 x7_1).f5), .int .i64 0]) ?_ 6 _ rfl; (with_reducible repeat (first | refine zk ?_ _ | refine zl ?_ | refine zj ?_ _)); refine zv (cs := #[.string ((rd_T77 l0 x7_1).f0), .string ((rd_T77 l0 x7_1).f1), .int .i64 ((rd_T77 l0 x7_1).f2), .int .i64 ((rd_T77 l0 x7_1).f3), .int .i64 ((rd_T77 l0 x7_1).f4), .int .i64 0, .int .i64 0]) ?_ 5 _ rfl; (with_reducible repeat (first | refine zk ?_ _ | refine zl ?_ | refine zj ?_ _)); refine zv (cs := #[.string ((rd_T77 l0 x7_1).f0), .string ((rd_T77 l0 x7_1).f1), .int .i64 ((rd_T77 l0 x7_1).f2), .int .i64 ((rd_T77 l0 x7_1).f3), .int .i64 0, .int .i64 0, .int .i64 0]) ?_ 4 _ rfl; (with_reducible repeat (first | refine zk ?_ _ | refine zl ?_ | refine zj ?_ _)); refine zv (cs := #[.string ((rd_T77 l0 x7_1).f0), .string ((rd_T77 l0 x7_1).f1), .int .i64 ((rd_T77 l0 x7_1).f2), .int .i64 0, .int .i64 0, .int .i64 0, .int .i64 0]) ?_ 3 _ rfl; (with_reducible repeat (first | refine zk ?_ _ | refine zl ?_ | refine zj ?_ _)); refine zv (cs := #[.string ((rd_T77 l0 x7_1).f0), .string ((rd_T77 l0 x7_1).f1), .int .i64 0, .int .i64 0, .int .i64 0, .int .i64 0, .int .i64 0]) ?_ 2 _ rfl; (with_reducible repeat (first | refine zk ?_ _ | refine zl ?_ | refine zj ?_ _)); refine zv (cs := #[.string ((rd_T77 l0 x7_1).f0), .string (⟨#[]⟩ : ByteArray), .int .i64 0, .int .i64 0, .int .i64 0, .int .i64 0, .int .i64 0]) ?_ 1 _ rfl; (with_reducible repeat (first | refine zk ?_ _ | refine zl ?_ | refine zj ?_ _)); refine zv (cs := #[.string (⟨#[]⟩ : ByteArray), .string (⟨#[]⟩ : ByteArray), .int .i64 0, .int .i64 0, .int .i64 0, .int .i64 0, .int .i64 0]) ?_ 0 _ rfl; (with_reducible repeat (first | refine zk ?_ _ | refine zl ?_ | refine zj ?_ _)); exact zA.out⟩
        have n1_ : Aside0 (Below w.heap.size w (((((((w22.setCell ⟨zB, 0, none⟩ (.string ((rd_T77 l0 x7_1).f0))).setCell ⟨zB, 1, none⟩ (.string ((rd_T77 l0 x7_1).f1))).setCell ⟨zB, 2, none⟩ (.int .i64 ((rd_T77 l0 x7_1).f2))).setCell ⟨zB, 3, none⟩ (.int .i64 ((rd_T77 l0 x7_1).f3))).setCell ⟨zB, 4, none⟩ (.int .i64 ((rd_T77 l0 x7_1).f4))).setCell ⟨zB, 5, none⟩ (.int .i64 ((rd_T77 l0 x7_1).f5))).setCell ⟨zB, 6, none⟩ (.int .i64 ((rd_T77 l0 x7_1).f6)))) := ⟨by repeat (first | (with_reducible first | exact HB.out | apply zh | apply zf | apply zg | refine zd ?_ zC.out) | exact HB.out)⟩
        (try clear zA)
        (try clear HB)
        generalize (((((((w22.setCell ⟨zB, 0, none⟩ (.string ((rd_T77 l0 x7_1).f0))).setCell ⟨zB, 1, none⟩ (.string ((rd_T77 l0 x7_1).f1))).setCell ⟨zB, 2, none⟩ (.int .i64 ((rd_T77 l0 x7_1).f2))).setCell ⟨zB, 3, none⟩ (.int .i64 ((rd_T77 l0 x7_1).f3))).setCell ⟨zB, 4, none⟩ (.int .i64 ((rd_T77 l0 x7_1).f4))).setCell ⟨zB, 5, none⟩ (.int .i64 ((rd_T77 l0 x7_1).f5))).setCell ⟨zB, 6, none⟩ (.int .i64 ((rd_T77 l0 x7_1).f6))) = w24 at n0_ n1_ ⊢
        have zA := n0_
        have HB := n1_
        clear n0_ n1_
        have n0_ := Aside0.mk (zl zA.out)
        have n1_ := Aside0.mk (zg HB.out)
        clear zA
        clear HB
        have zA := n0_
        have HB := n1_
        clear n0_ n1_
        refine start_ (n := 18) (S := fun w' => b77 w' zB (rd_T77 l0 x7_1)) (ds := []) #[false, false, false, false, false, false, false, false, false, false, false, false, false, false, false, false, false, false] (by kernel_rfl) rfl rfl ⟨(zc zA.out 0).trans rfl, (zc zA.out 1).trans rfl, (zc zA.out 2).trans rfl, (zc zA.out 3).trans rfl, (zc zA.out 4).trans rfl, (zc zA.out 5).trans rfl, (zc zA.out 6).trans rfl⟩ (fun hHeld => ?_); refine with_tabW impl_nodesOk.tab4 impl_nodesOk.bits4 (fun HT_ HW_ => ?_)
        generalize w24.drew = w25 at zA HB hHeld ⊢
        refine ta 0 12 rfl rfl (take_ofW HT_.out HW_.out (by kernel_rfl)) (fun _ _ _ _ h => h) (by rfl) hHeld ⟨_, _, by rintro w' ⟨s0, s1, s2, s3, s4, s5, s6⟩; go_simp; rfl, by simp only [pt, ps, p0, p1, zo, zp]; rfl, ?_⟩
        refine one_ (i := 1) (N := some 13) #[true, true, false, false, false, false, false, false, false, false, false, false, false, false, false, false, false, false] rfl rfl (one_of HT_.out (by kernel_rfl)) (by decide) (fun K hK => ?_)
        refine goes_ Tryd.func91 (by kernel_rfl) rfl #[.agg #[.string ((rd_T77 l0 x7_1).f0), .string ((rd_T77 l0 x7_1).f1), .int .i64 ((rd_T77 l0 x7_1).f2), .int .i64 ((rd_T77 l0 x7_1).f3), .int .i64 ((rd_T77 l0 x7_1).f4), .int .i64 ((rd_T77 l0 x7_1).f5), .int .i64 ((rd_T77 l0 x7_1).f6)]] (by rfl) rfl rfl (by (try simp only [List.map_toArray, List.map_cons, List.map_nil]); first | done | rfl) ?_
        with_reducible refine (impl_Node_valid.calls k1 ((rd_T77 l0 x7_1).f0) ((rd_T77 l0 x7_1).f1) ((rd_T77 l0 x7_1).f2) ((rd_T77 l0 x7_1).f3) ((rd_T77 l0 x7_1).f4) ((rd_T77 l0 x7_1).f5) ((rd_T77 l0 x7_1).f6) true _ A5.out ?globMAX_).mono ?_; (case globMAX_ => exact Go.Proofs.YtfiojiokmkiflaaDoorH.GFMAX.below HGMAX_.out (by repeat (first | (with_reducible first | exact HB.out | exact Below.refl _ _ | apply zh | apply zf | apply zg | refine zd ?_ (Aside0.out (by assumption))) | exact HB.out)))
        rintro e w26 ⟨rfl, hb⟩
        refine ⟨_, rfl, ?_⟩
        have n0_ := Aside0.mk (zi (g := zB) (o := .cells #[.string ((rd_T77 l0 x7_1).f0), .string ((rd_T77 l0 x7_1).f1), .int .i64 ((rd_T77 l0 x7_1).f2), .int .i64 ((rd_T77 l0 x7_1).f3), .int .i64 ((rd_T77 l0 x7_1).f4), .int .i64 ((rd_T77 l0 x7_1).f5), .int .i64 ((rd_T77 l0 x7_1).f6)] 77 (0, 0)) (BL zA.out) hb)
        have n1_ := Aside0.mk (zn (by repeat (first | (with_reducible first | exact HB.out | apply zh | apply zf | apply zg | refine zd ?_ zC.out) | exact HB.out)) hb)
        clear zA
        clear HB
        have zA := n0_
        have HB := n1_
        clear n0_ n1_
        (try clear hb)
        (try clear hb2)
        (try clear hk)
        (try clear hi)
        refine hK.out _ _ ⟨(zc zA.out 0).trans rfl, (zc zA.out 1).trans rfl, (zc zA.out 2).trans rfl, (zc zA.out 3).trans rfl, (zc zA.out 4).trans rfl, (zc zA.out 5).trans rfl, (zc zA.out 6).trans rfl⟩ (fun hHeld => ?_)
        clear hK K
        refine norm_ (a' := ?_) ?_ ?_
        rotate_left
        ·show Act.put _ (some 13) _ = _
         simp only [pt, ps, p0, p1, zo, zp]
         rfl
        refine pu 2 14 rfl rfl (zq HT_.out (by kernel_rfl)) (fun _ _ _ _ h => h) (by rfl) ⟨_, _, fun w' => by go_simp; rfl, by simp only [pt, ps, p0, p1, zo, zp]; rfl, ?_⟩
        refine pu 3 15 rfl rfl (zq HT_.out (by kernel_rfl)) (fun _ _ _ _ h => h) (by rfl) ⟨_, _, fun w' => by go_simp; rfl, by simp only [pt, ps, p0, p1, zo, zp]; rfl, ?_⟩
        refine pu 4 16 rfl rfl (zq HT_.out (by kernel_rfl)) (fun _ _ _ _ h => h) (by rfl) ⟨_, _, fun w' => by go_simp; rfl, by simp only [pt, ps, p0, p1, zo, zp]; rfl, ?_⟩
        refine pu 5 17 rfl rfl (zq HT_.out (by kernel_rfl)) (fun _ _ _ _ h => h) (by rfl) ⟨_, _, fun w' => by go_simp; rfl, by simp only [pt, ps, p0, p1, zo, zp]; rfl, ?_⟩
        refine pu 6 18 rfl rfl (zq HT_.out (by kernel_rfl)) (fun _ _ _ _ h => h) (by rfl) ⟨_, _, fun w' => by go_simp; rfl, by simp only [pt, ps, p0, p1, zo, zp]; rfl, ?_⟩
        refine po 7 19 rfl rfl (zq HT_.out (by kernel_rfl)) (fun _ _ _ _ h => h) (by rfl) ⟨_, by simp only [pt, ps, p0, p1, zo, zp]; rfl, ?_⟩
        refine po 8 20 rfl rfl (zq HT_.out (by kernel_rfl)) (fun _ _ _ _ h => h) (by rfl) ⟨_, by simp only [pt, ps, p0, p1, zo, zp]; rfl, ?_⟩
        refine po 9 21 rfl rfl (zq HT_.out (by kernel_rfl)) (fun _ _ _ _ h => h) (by rfl) ⟨_, by simp only [pt, ps, p0, p1, zo, zp]; rfl, ?_⟩
        refine po 10 22 rfl rfl (zq HT_.out (by kernel_rfl)) (fun _ _ _ _ h => h) (by rfl) ⟨_, by simp only [pt, ps, p0, p1, zo, zp]; rfl, ?_⟩
        refine po 11 23 rfl rfl (zq HT_.out (by kernel_rfl)) (fun _ _ _ _ h => h) (by rfl) ⟨_, by simp only [pt, ps, p0, p1, zo, zp]; rfl, ?_⟩
        refine po 12 24 rfl rfl (zq HT_.out (by kernel_rfl)) (fun _ _ _ _ h => h) (by rfl) ⟨_, by simp only [pt, ps, p0, p1, zo, zp]; rfl, ?_⟩
        refine po 13 25 rfl rfl (zq HT_.out (by kernel_rfl)) (fun _ _ _ _ h => h) (by rfl) ⟨_, by simp only [pt, ps, p0, p1, zo, zp]; rfl, ?_⟩
        refine po 14 26 rfl rfl (zq HT_.out (by kernel_rfl)) (fun _ _ _ _ h => h) (by rfl) ⟨_, by simp only [pt, ps, p0, p1, zo, zp]; rfl, ?_⟩
        refine po 15 27 rfl rfl (zq HT_.out (by kernel_rfl)) (fun _ _ _ _ h => h) (by rfl) ⟨_, by simp only [pt, ps, p0, p1, zo, zp]; rfl, ?_⟩
        refine pu 16 28 rfl rfl (zq HT_.out (by kernel_rfl)) (fun _ _ _ _ h => h) (by rfl) ⟨_, _, fun w' => by go_simp; rfl, by simp only [pt, ps, p0, p1, zo, zp]; rfl, ?_⟩
        refine pu 17 29 rfl rfl (zq HT_.out (by kernel_rfl)) (fun _ _ _ _ h => h) (by rfl) ⟨_, _, fun w' => by go_simp; rfl, by simp only [pt, ps, p0, p1, zo, zp]; rfl, ?_⟩
        refine done_ (done_of HT_.out (by kernel_rfl)) ?_
        try go_wp2
        go_roundg k1
        case measure => have := HK1.out; omega
        case rel => exact ⟨(wrap64 (x7_1 + 1)), (by first | rfl | (simp [*]; done)), H', ⟨by have := HK1.out; omega⟩, ⟨by repeat (first | (with_reducible first | exact HB.out | apply zh | apply zf | apply zg | refine zd ?_ zC.out) | exact HB.out)⟩⟩
      ·replace c6 := Bool.eq_false_iff.mpr c6
       subst c6
       rw [if_neg (show ¬ (false = true) by decide)] at H
       obtain rfl := Option.some.inj H
       have p253 : 0 ≤ (x7_1 : Int) := of_decide_eq_true (by with_reducible assumption)
       have q253 : x7_1 < (l0.length : Int) := of_decide_eq_true (by with_reducible assumption)
       obtain ⟨ad253, e253, hx253_0, hx253_1, hx253_2, hx253_3, hx253_4, hx253_5, hx253_6⟩ := at_T77 (Kd.C_below HR0.out HB.out) x7_1 p253 q253
       cases e253
       replace p253 := eq_true p253
       replace q253 := eq_true q253
       try go_wp2_with (first | ((with_reducible refine zu (N := 4) rfl ?_); refine zy ?hg (N := 4) ?hd (cs := #[.string (⟨#[]⟩ : ByteArray), .string (⟨#[]⟩ : ByteArray), .int .i64 0, .int .i64 0, .int .i64 0, .int .i64 0, .int .i64 0]) (t := 77) ?hr ?_; (case hd => rfl); (case hg => rfl); (case hr => first | (go_simp; done) | (go_simp; rfl)); intro zB hg w27 hbox hb; have n0_ := Aside0.mk (zn (by exact bl HB.out) hb); have n1_ := Aside0.mk (hbox); have n2_ := Aside0.mk ((by rw [hg]; exact (zm (by exact bl HB.out)) : w.heap.size ≤ zB)); have n3_ := Aside0.mk ((by rw [hg]; exact (zm (by exact bl HB.out)) : w.heap.size ≤ zB)); clear HB; have HB := n0_; have zA := n1_; have GW254 := n2_; have zC := n3_; clear n0_ n1_ n2_ n3_; clear hb hbox hg; have ztb : w27.cell? ⟨zB, 0, none⟩ = some (.string (⟨#[]⟩ : ByteArray)) := (zc zA.out 0).trans rfl; have zub : w27.cell? ⟨zB, 1, none⟩ = some (.string (⟨#[]⟩ : ByteArray)) := (zc zA.out 1).trans rfl; have zvb : w27.cell? ⟨zB, 2, none⟩ = some (.int .i64 0) := (zc zA.out 2).trans rfl; have zwb : w27.cell? ⟨zB, 3, none⟩ = some (.int .i64 0) := (zc zA.out 3).trans rfl; have zxb : w27.cell? ⟨zB, 4, none⟩ = some (.int .i64 0) := (zc zA.out 4).trans rfl; have zyb : w27.cell? ⟨zB, 5, none⟩ = some (.int .i64 0) := (zc zA.out 5).trans rfl; have zzb : w27.cell? ⟨zB, 6, none⟩ = some (.int .i64 0) := (zc zA.out 6).trans rfl; have zAb := ze zA.out 0; have zBb := ze zA.out 1; have zCb := ze zA.out 2; have zDb := ze zA.out 3; have zEb := ze zA.out 4; have zFb := ze zA.out 5; have zGb := ze zA.out 6))
       have n0_ : Aside0 ((((((((w27.setCell ⟨zB, 0, none⟩ (.string ((rd_T77 l0 x7_1).f0))).setCell ⟨zB, 1, none⟩ (.string ((rd_T77 l0 x7_1).f1))).setCell ⟨zB, 2, none⟩ (.int .i64 ((rd_T77 l0 x7_1).f2))).setCell ⟨zB, 3, none⟩ (.int .i64 ((rd_T77 l0 x7_1).f3))).setCell ⟨zB, 4, none⟩ (.int .i64 ((rd_T77 l0 x7_1).f4))).setCell ⟨zB, 5, none⟩ (.int .i64 ((rd_T77 l0 x7_1).f5))).setCell ⟨zB, 6, none⟩ (.int .i64 ((rd_T77 l0 x7_1).f6))).heap[zB]? = some (.cells #[.string ((rd_T77 l0 x7_1).f0), .string ((rd_T77 l0 x7_1).f1), .int .i64 ((rd_T77 l0 x7_1).f2), .int .i64 ((rd_T77 l0 x7_1).f3), .int .i64 ((rd_T77 l0 x7_1).f4), .int .i64 ((rd_T77 l0 x7_1).f5), .int .i64 ((rd_T77 l0 x7_1).f6)] 77 (0, 0))) := ⟨by (with_reducible repeat (first | refine zk ?_ _ | refine zl ?_ | refine zj ?_ _)); refine zv (cs := #[.string ((rd_T77 l0 x7_1).f0), .string ((rd_T77 l0 x7_1).f1), .int .i64 ((rd_T77 l0 x7_1).f2), .int .i64 ((rd_T77 l0 x7_1).f3), .int .i64 ((rd_T77 l0 x7_1).f4), .int .i64 ((rd_T77 l0 x7_1).f5), .int .i64 0]) ?_ 6 _ rfl; (with_reducible repeat (first | refine zk ?_ _ | refine zl ?_ | refine zj ?_ _)); refine zv (cs := #[.string ((rd_T77 l0 x7_1).f0), .string ((rd_T77 l0 x7_1).f1), .int .i64 ((rd_T77 l0 x7_1).f2), .int .i64 ((rd_T77 l0 x7_1).f3), .int .i64 ((rd_T77 l0 x7_1).f4), .int .i64 0, .int .i64 0]) ?_ 5 _ rfl; (with_reducible repeat (first | refine zk ?_ _ | refine zl ?_ | refine zj ?_ _)); refine zv (cs := #[.string ((rd_T77 l0 x7_1).f0), .string ((rd_T77 l0 x7_1).f1), .int .i64 ((rd_T77 l0 x7_1).f2), .int .i64 ((rd_T77 l0 x7_1).f3), .int .i64 0, .int .i64 0, .int .i64 0]) ?_ 4 _ rfl; (with_reducible repeat (first | refine zk ?_ _ | refine zl ?_ | refine zj ?_ _)); refine zv (cs := #[.string ((rd_T77 l0 x7_1).f0), .string ((rd_T77 l0 x7_1).f1), .int .i64 ((rd_T77 l0 x7_1).f2), .int .i64 0, .int .i64 0, .int .i64 0, .int .i64 0]) ?_ 3 _ rfl; (with_reducible repeat (first | refine zk ?_ _ | refine zl ?_ | refine zj ?_ _)); refine zv (cs := #[.string ((rd_T77 l0 x7_1).f0), .string ((rd_T77 l0 x7_1).f1), .int .i64 0, .int .i64 0, .int .i64 0, .int .i64 0, .int .i64 0]) ?_ 2 _ rfl; (with_reducible repeat (first | refine zk ?_ _ | refine zl ?_ | refine zj ?_ _)); refine zv (cs := #[.string ((rd_T77 l0 x7_1).f0), .string (⟨#[]⟩ : ByteArray), .int .i64 0, .int .i64 0, .int .i64 0, .int .i64 0, .int .i64 0]) ?_ 1 _ rfl; (with_reducible repeat (first | refine zk ?_ _ | refine zl ?_ | refine zj ?_ _)); refine zv (cs := #[.string (⟨#[]⟩ : ByteArray), .string (⟨#[]⟩ : ByteArray), .int .i64 0, .int .i64 0, .int .i64 0, .int .i64 0, .int .i64 0]) ?_ 0 _ rfl; (with_reducible repeat (first | refine zk ?_ _ | refine zl ?_ | refine zj ?_ _)); exact zA.out⟩
       have n1_ : Aside0 (Below w.heap.size w (((((((w27.setCell ⟨zB, 0, none⟩ (.string ((rd_T77 l0 x7_1).f0))).setCell ⟨zB, 1, none⟩ (.string ((rd_T77 l0 x7_1).f1))).setCell ⟨zB, 2, none⟩ (.int .i64 ((rd_T77 l0 x7_1).f2))).setCell ⟨zB, 3, none⟩ (.int .i64 ((rd_T77 l0 x7_1).f3))).setCell ⟨zB, 4, none⟩ (.int .i64 ((rd_T77 l0 x7_1).f4))).setCell ⟨zB, 5, none⟩ (.int .i64 ((rd_T77 l0 x7_1).f5))).setCell ⟨zB, 6, none⟩ (.int .i64 ((rd_T77 l0 x7_1).f6)))) := ⟨by repeat (first | (with_reducible first | exact HB.out | apply zh | apply zf | apply zg | refine zd ?_ zC.out) | exact HB.out)⟩
       (try clear zA)
       (try clear HB)
       generalize (((((((w27.setCell ⟨zB, 0, none⟩ (.string ((rd_T77 l0 x7_1).f0))).setCell ⟨zB, 1, none⟩ (.string ((rd_T77 l0 x7_1).f1))).setCell ⟨zB, 2, none⟩ (.int .i64 ((rd_T77 l0 x7_1).f2))).setCell ⟨zB, 3, none⟩ (.int .i64 ((rd_T77 l0 x7_1).f3))).setCell ⟨zB, 4, none⟩ (.int .i64 ((rd_T77 l0 x7_1).f4))).setCell ⟨zB, 5, none⟩ (.int .i64 ((rd_T77 l0 x7_1).f5))).setCell ⟨zB, 6, none⟩ (.int .i64 ((rd_T77 l0 x7_1).f6))) = w29 at n0_ n1_ ⊢
       have zA := n0_
       have HB := n1_
       clear n0_ n1_
       have n0_ := Aside0.mk (zl zA.out)
       have n1_ := Aside0.mk (zg HB.out)
       clear zA
       clear HB
       have zA := n0_
       have HB := n1_
       clear n0_ n1_
       refine start_ (n := 18) (S := fun w' => b77 w' zB (rd_T77 l0 x7_1)) (ds := []) #[false, false, false, false, false, false, false, false, false, false, false, false, false, false, false, false, false, false] (by kernel_rfl) rfl rfl ⟨(zc zA.out 0).trans rfl, (zc zA.out 1).trans rfl, (zc zA.out 2).trans rfl, (zc zA.out 3).trans rfl, (zc zA.out 4).trans rfl, (zc zA.out 5).trans rfl, (zc zA.out 6).trans rfl⟩ (fun hHeld => ?_); refine with_tabW impl_nodesOk.tab4 impl_nodesOk.bits4 (fun HT_ HW_ => ?_)
       generalize w29.drew = w30 at zA HB hHeld ⊢
       refine ta 0 12 rfl rfl (take_ofW HT_.out HW_.out (by kernel_rfl)) (fun _ _ _ _ h => h) (by rfl) hHeld ⟨_, _, by rintro w' ⟨s0, s1, s2, s3, s4, s5, s6⟩; go_simp; rfl, by simp only [pt, ps, p0, p1, zo, zp]; rfl, ?_⟩
       refine one_ (i := 1) (N := some 13) #[true, true, false, false, false, false, false, false, false, false, false, false, false, false, false, false, false, false] rfl rfl (one_of HT_.out (by kernel_rfl)) (by decide) (fun K hK => ?_)
       refine goes_ Tryd.func91 (by kernel_rfl) rfl #[.agg #[.string ((rd_T77 l0 x7_1).f0), .string ((rd_T77 l0 x7_1).f1), .int .i64 ((rd_T77 l0 x7_1).f2), .int .i64 ((rd_T77 l0 x7_1).f3), .int .i64 ((rd_T77 l0 x7_1).f4), .int .i64 ((rd_T77 l0 x7_1).f5), .int .i64 ((rd_T77 l0 x7_1).f6)]] (by rfl) rfl rfl (by (try simp only [List.map_toArray, List.map_cons, List.map_nil]); first | done | rfl) ?_
       with_reducible refine (impl_Node_valid.calls k1 ((rd_T77 l0 x7_1).f0) ((rd_T77 l0 x7_1).f1) ((rd_T77 l0 x7_1).f2) ((rd_T77 l0 x7_1).f3) ((rd_T77 l0 x7_1).f4) ((rd_T77 l0 x7_1).f5) ((rd_T77 l0 x7_1).f6) false _ A5.out ?globMAX_).mono ?_; (case globMAX_ => exact Go.Proofs.YtfiojiokmkiflaaDoorH.GFMAX.below HGMAX_.out (by repeat (first | (with_reducible first | exact HB.out | exact Below.refl _ _ | apply zh | apply zf | apply zg | refine zd ?_ (Aside0.out (by assumption))) | exact HB.out)))
       rintro e w31 ⟨rfl, hb⟩
       refine ⟨_, rfl, ?_⟩
       have n0_ := Aside0.mk (zi (g := zB) (o := .cells #[.string ((rd_T77 l0 x7_1).f0), .string ((rd_T77 l0 x7_1).f1), .int .i64 ((rd_T77 l0 x7_1).f2), .int .i64 ((rd_T77 l0 x7_1).f3), .int .i64 ((rd_T77 l0 x7_1).f4), .int .i64 ((rd_T77 l0 x7_1).f5), .int .i64 ((rd_T77 l0 x7_1).f6)] 77 (0, 0)) (BL zA.out) hb)
       have n1_ := Aside0.mk (zn (by repeat (first | (with_reducible first | exact HB.out | apply zh | apply zf | apply zg | refine zd ?_ zC.out) | exact HB.out)) hb)
       clear zA
       clear HB
       have zA := n0_
       have HB := n1_
       clear n0_ n1_
       (try clear hb)
       (try clear hb2)
       (try clear hk)
       (try clear hi)
       refine hK.out _ _ ⟨(zc zA.out 0).trans rfl, (zc zA.out 1).trans rfl, (zc zA.out 2).trans rfl, (zc zA.out 3).trans rfl, (zc zA.out 4).trans rfl, (zc zA.out 5).trans rfl, (zc zA.out 6).trans rfl⟩ (fun hHeld => ?_)
       clear hK K
       refine norm_ (a' := ?_) ?_ ?_
       rotate_left
       ·show Act.put _ (some 13) _ = _
        simp only [pt, ps, p0, p1, zo, zp]
        rfl
       refine pu 2 14 rfl rfl (zq HT_.out (by kernel_rfl)) (fun _ _ _ _ h => h) (by rfl) ⟨_, _, fun w' => by go_simp; rfl, by simp only [pt, ps, p0, p1, zo, zp]; rfl, ?_⟩
       refine pu 3 15 rfl rfl (zq HT_.out (by kernel_rfl)) (fun _ _ _ _ h => h) (by rfl) ⟨_, _, fun w' => by go_simp; rfl, by simp only [pt, ps, p0, p1, zo, zp]; rfl, ?_⟩
       refine po 4 16 rfl rfl (zq HT_.out (by kernel_rfl)) (fun _ _ _ _ h => h) (by rfl) ⟨_, by simp only [pt, ps, p0, p1, zo, zp]; rfl, ?_⟩
       refine po 5 17 rfl rfl (zq HT_.out (by kernel_rfl)) (fun _ _ _ _ h => h) (by rfl) ⟨_, by simp only [pt, ps, p0, p1, zo, zp]; rfl, ?_⟩
       refine po 6 18 rfl rfl (zq HT_.out (by kernel_rfl)) (fun _ _ _ _ h => h) (by rfl) ⟨_, by simp only [pt, ps, p0, p1, zo, zp]; rfl, ?_⟩
       refine po 7 19 rfl rfl (zq HT_.out (by kernel_rfl)) (fun _ _ _ _ h => h) (by rfl) ⟨_, by simp only [pt, ps, p0, p1, zo, zp]; rfl, ?_⟩
       refine po 8 20 rfl rfl (zq HT_.out (by kernel_rfl)) (fun _ _ _ _ h => h) (by rfl) ⟨_, by simp only [pt, ps, p0, p1, zo, zp]; rfl, ?_⟩
       refine po 9 21 rfl rfl (zq HT_.out (by kernel_rfl)) (fun _ _ _ _ h => h) (by rfl) ⟨_, by simp only [pt, ps, p0, p1, zo, zp]; rfl, ?_⟩
       refine po 10 22 rfl rfl (zq HT_.out (by kernel_rfl)) (fun _ _ _ _ h => h) (by rfl) ⟨_, by simp only [pt, ps, p0, p1, zo, zp]; rfl, ?_⟩
       refine po 11 23 rfl rfl (zq HT_.out (by kernel_rfl)) (fun _ _ _ _ h => h) (by rfl) ⟨_, by simp only [pt, ps, p0, p1, zo, zp]; rfl, ?_⟩
       refine po 12 24 rfl rfl (zq HT_.out (by kernel_rfl)) (fun _ _ _ _ h => h) (by rfl) ⟨_, by simp only [pt, ps, p0, p1, zo, zp]; rfl, ?_⟩
       refine po 13 25 rfl rfl (zq HT_.out (by kernel_rfl)) (fun _ _ _ _ h => h) (by rfl) ⟨_, by simp only [pt, ps, p0, p1, zo, zp]; rfl, ?_⟩
       refine po 14 26 rfl rfl (zq HT_.out (by kernel_rfl)) (fun _ _ _ _ h => h) (by rfl) ⟨_, by simp only [pt, ps, p0, p1, zo, zp]; rfl, ?_⟩
       refine po 15 27 rfl rfl (zq HT_.out (by kernel_rfl)) (fun _ _ _ _ h => h) (by rfl) ⟨_, by simp only [pt, ps, p0, p1, zo, zp]; rfl, ?_⟩
       refine po 16 28 rfl rfl (zq HT_.out (by kernel_rfl)) (fun _ _ _ _ h => h) (by rfl) ⟨_, by simp only [pt, ps, p0, p1, zo, zp]; rfl, ?_⟩
       refine pu 17 29 rfl rfl (zq HT_.out (by kernel_rfl)) (fun _ _ _ _ h => h) (by rfl) ⟨_, _, fun w' => by go_simp; rfl, by simp only [pt, ps, p0, p1, zo, zp]; rfl, ?_⟩
       refine done_ (done_of HT_.out (by kernel_rfl)) ?_
       try go_wp2
       go_ret
       exact ⟨by first | rfl | (simp [*] <;> rfl), by repeat (first | (with_reducible first | exact HB.out | apply zh | apply zf | apply zg | refine zd ?_ zC.out) | exact HB.out)⟩
     ·rw [if_neg c4] at H
      exact absurd H (by simp)
    ·rw [if_neg c3] at H
     exact absurd H (by simp)
   ·rw [if_neg c2] at H
    have c2b0 : decide (x7_1 < (l0.length : Int)) = false := decide_eq_false c2
    clear c2
    obtain rfl := Option.some.inj H
    go_wp2
    go_ret
    exact ⟨by first | rfl | (simp [*] <;> rfl), by repeat (first | (with_reducible first | exact HB.out | apply zh | apply zf | apply zg) | exact HB.out)⟩

def impl_ValidTree.f (k : Nat) (l0_0 : List (S77)) : Option (Bool) := if (l0_0.length : Int) ≤ 1000 then ((impl_nodesOk.f k l0_0).bind fun t258 => (some t258)) else (some false)
theorem impl_ValidTree.mono : ∀ a0 k, LeO (impl_ValidTree.f k a0) (impl_ValidTree.f (k + 1) a0) := by
 intro a0 k
 unfold impl_ValidTree.f
 repeat' first
   | (with_reducible exact impl_nodesOk.mono _ _)
   | (with_reducible exact LeO.refl _)
   | (with_reducible exact LeO.none _)
   | (with_reducible refine LeO.ite ?_ ?_)
   | (with_reducible refine LeO.bind ?_ (fun _ => ?_))
   | exact impl_nodesOk.mono _ _
   | exact LeO.none _
   | refine LeO.ite ?_ ?_
   | refine LeO.bind ?_ (fun _ => ?_)
set_option maxHeartbeats 8000000 in
set_option maxRecDepth 100000 in
theorem impl_ValidTree.calls (k : Nat) (A0_0 : Option Addr) (c0_0 : Nat) (l0_0 : List (S77)) (r : Bool) (w : World) (hr0_0 : Kd.C k77 w A0_0 l0_0.length l0_0) (hc0_0 : l0_0.length ≤ c0_0) (h : impl_ValidTree.f k l0_0 = some r) (hGMAX_ : Go.Proofs.YtfiojiokmkiflaaDoorH.GFMAX w) :
  Calls Tryd.prog 9 #[.agg #[.slice A0_0 l0_0.length c0_0]] w fun e w' => e = .returned (.bool r) ∧ Below w.heap.size w w' := by
 have HGMAX_ := Aside0.mk hGMAX_
 clear hGMAX_
 have hu25 := Tryd.underlying25
 have HR0_0 := Aside0.mk hr0_0
 have HC0_0 := Aside0.mk hc0_0
 clear hr0_0 hc0_0
 have HB := Aside0.mk (Below.refl w.heap.size w)
 have H : (if (l0_0.length : Int) ≤ 1000 then ((impl_nodesOk.f k l0_0).bind fun t258 => (some t258)) else (some false)) = some r := h
 clear h
 by_cases c2 : (l0_0.length : Int) ≤ 1000
 ·rw [if_pos c2] at H
  have c2b0 : decide ((l0_0.length : Int) ≤ 1000) = true := decide_eq_true c2
  have c2b1 : decide (l0_0.length ≤ 1000) = true := decide_eq_true (by omega)
  clear c2
  replace H := Option.bind_eq_some_iff.mp H
  obtain ⟨t258, A30, H⟩ := H
  try dsimp only at H
  have A3 := Aside0.mk A30
  clear A30
  obtain rfl := Option.some.inj H
  go_enter Tryd.func9, Tryd.ntmps9
  go_wp2_with (first | ((with_reducible refine zu (N := 1) rfl ?_); refine zy ?hg (N := 1) ?hd (cs := #[.slice A0_0 l0_0.length c0_0]) (t := 25) ?hr ?_; (case hd => rfl); (case hg => rfl); (case hr => first | (go_simp; done) | (go_simp; rfl)); intro zA hg w4 hbox hb; have n0_ := Aside0.mk (zn (by exact bl HB.out) hb); have n1_ := Aside0.mk (hbox); have n2_ := Aside0.mk ((by rw [hg]; exact (zm (by exact bl HB.out)) : w.heap.size ≤ zA)); have n3_ := Aside0.mk ((by rw [hg]; exact (zm (by exact bl HB.out)) : w.heap.size ≤ zA)); clear HB; have HB := n0_; have zB := n1_; have GW257 := n2_; have zC := n3_; clear n0_ n1_ n2_ n3_; clear hb hbox hg; have zD : w4.cell? ⟨zA, 0, none⟩ = some (.slice A0_0 l0_0.length c0_0) := (zc zB.out 0).trans rfl; have zE := ze zB.out 0) | (go_at_call 39; (with_reducible refine (impl_nodesOk.calls k _ _ l0_0 t258 _ ?side1 ?side2 A3.out ?globMAX_).mono ?_); (case globMAX_ => exact Go.Proofs.YtfiojiokmkiflaaDoorH.GFMAX.below HGMAX_.out (by repeat (first | (with_reducible first | exact HB.out | exact Below.refl _ _ | apply zh | apply zf | apply zg | refine zd ?_ (Aside0.out (by assumption))) | exact HB.out))); (case side1 => repeat (first | exact (Kd.C_below HR0_0.out HB.out) | (with_reducible refine Kd.C_alloc ?_ _) | (with_reducible refine Kd.C_drewN ?_ _) | (with_reducible refine Kd.C_drew ?_))); (case side2 => exact HC0_0.out); rintro e w6 ⟨rfl, hb⟩; have n0_ := Aside0.mk (zi (g := zA) (o := .cells #[.slice A0_0 l0_0.length c0_0] 25 (0, 0)) (BL zB.out) hb); have n1_ := Aside0.mk (zn (by exact bl HB.out) hb); clear zB; clear HB; have zB := n0_; have HB := n1_; clear n0_ n1_; (try clear hb); (try clear hb2); (try clear hk); (try clear hi)))
  go_ret
  exact ⟨by first | rfl | (simp [*] <;> rfl), by repeat (first | (with_reducible first | exact HB.out | apply zh | apply zf | apply zg | refine zd ?_ zC.out) | exact HB.out)⟩
 ·rw [if_neg c2] at H
  have c2b0 : decide ((l0_0.length : Int) ≤ 1000) = false := decide_eq_false c2
  have c2b1 : decide (l0_0.length ≤ 1000) = false := decide_eq_false (by omega)
  clear c2
  obtain rfl := Option.some.inj H
  go_enter Tryd.func9, Tryd.ntmps9
  go_wp2_with (first | ((with_reducible refine zu (N := 1) rfl ?_); refine zy ?hg (N := 1) ?hd (cs := #[.slice A0_0 l0_0.length c0_0]) (t := 25) ?hr ?_; (case hd => rfl); (case hg => rfl); (case hr => first | (go_simp; done) | (go_simp; rfl)); intro zA hg w7 hbox hb; have n0_ := Aside0.mk (zn (by exact bl HB.out) hb); have n1_ := Aside0.mk (hbox); have n2_ := Aside0.mk ((by rw [hg]; exact (zm (by exact bl HB.out)) : w.heap.size ≤ zA)); have n3_ := Aside0.mk ((by rw [hg]; exact (zm (by exact bl HB.out)) : w.heap.size ≤ zA)); clear HB; have HB := n0_; have zB := n1_; have GW257 := n2_; have zC := n3_; clear n0_ n1_ n2_ n3_; clear hb hbox hg; have zF : w7.cell? ⟨zA, 0, none⟩ = some (.slice A0_0 l0_0.length c0_0) := (zc zB.out 0).trans rfl; have zG := ze zB.out 0))
  go_ret
  exact ⟨by first | rfl | (simp [*] <;> rfl), by repeat (first | (with_reducible first | exact HB.out | apply zh | apply zf | apply zg | refine zd ?_ zC.out) | exact HB.out)⟩

mutual
def impl_ValidTxn.j0 : Nat → Bool → Int → List (S108) → Option (Bool)
 | 0, _, _, _ => none
 | k + 1, x19, x260000, x260001 => if x19 = true then (some false) else (impl_ValidTxn.l0 k (⟨#[]⟩ : ByteArray) x260001 (x260001.length : Int) 0)
def impl_ValidTxn.l0 : Nat → ByteArray → List (S108) → Int → Int → Option (Bool)
 | 0, _, _, _, _ => none
 | k + 1, x3, x21, x22, x23 => if x23 < x22 then (if 0 ≤ x23 then (if x23 < (x21.length : Int) then ((impl_Node_valid.f k ((rd_T108 x21 x23).f1.f0) ((rd_T108 x21 x23).f1.f1) ((rd_T108 x21 x23).f1.f2) ((rd_T108 x21 x23).f1.f3) ((rd_T108 x21 x23).f1.f4) ((rd_T108 x21 x23).f1.f5) ((rd_T108 x21 x23).f1.f6)).bind fun t262 => (if t262 = true then (if ((Op.bytesLess x3.toList (((rd_T108 x21 x23).f1.f0).toList)) = true) then (if (rd_T108 x21 x23).f0 = true then (if (!((((rd_T108 x21 x23).f1.f1).toList) == ([] : List UInt8)) || (!(((rd_T108 x21 x23).f1.f2) == 0) || (!(((rd_T108 x21 x23).f1.f3) == 0) || (!(((rd_T108 x21 x23).f1.f4) == 0) || (!(((rd_T108 x21 x23).f1.f5) == 0) || (!(((rd_T108 x21 x23).f1.f6) == 0))))))) = true then (some false) else (impl_ValidTxn.l0 k ((rd_T108 x21 x23).f1.f0) x21 x22 (wrap64 (x23 + 1)))) else (impl_ValidTxn.l0 k ((rd_T108 x21 x23).f1.f0) x21 x22 (wrap64 (x23 + 1)))) else (some false)) else (some false))) else (none)) else (none)) else (some true)
end
def impl_ValidTxn.f (k : Nat) (a0_0 : Int) (l0_1 : List (S108)) : Option (Bool) := if a0_0 < 1 then (impl_ValidTxn.j0 k true a0_0 l0_1) else (if a0_0 > 2147483647 then (impl_ValidTxn.j0 k true a0_0 l0_1) else (impl_ValidTxn.j0 k (decide ((l0_1.length : Int) > 1000)) a0_0 l0_1))
theorem impl_ValidTxn.mono_l : ∀ k, (∀ y0 y1 y2, LeO (impl_ValidTxn.j0 k y0 y1 y2) (impl_ValidTxn.j0 (k + 1) y0 y1 y2)) ∧ (∀ y0 y1 y2 y3, LeO (impl_ValidTxn.l0 k y0 y1 y2 y3) (impl_ValidTxn.l0 (k + 1) y0 y1 y2 y3))
 | 0 => ⟨fun _ _ _ r h => by simp [impl_ValidTxn.j0] at h, fun _ _ _ _ r h => by simp [impl_ValidTxn.l0] at h⟩
 | k + 1 => by
  obtain ⟨ih0, ih1⟩ := impl_ValidTxn.mono_l k
  refine ⟨?_, ?_⟩
  ·intro y0 y1 y2
   unfold impl_ValidTxn.j0
   repeat' first
   | (with_reducible exact ih0 _ _ _)
   | (with_reducible exact ih1 _ _ _ _)
   | (with_reducible exact impl_Node_valid.mono _ _ _ _ _ _ _ _)
   | (with_reducible exact LeO.refl _)
   | (with_reducible exact LeO.none _)
   | (with_reducible refine LeO.ite ?_ ?_)
   | (with_reducible refine LeO.bind ?_ (fun _ => ?_))
   | exact ih0 _ _ _
   | exact ih1 _ _ _ _
   | exact impl_Node_valid.mono _ _ _ _ _ _ _ _
   | exact LeO.none _
   | refine LeO.ite ?_ ?_
   | refine LeO.bind ?_ (fun _ => ?_)
  ·intro y0 y1 y2 y3
   unfold impl_ValidTxn.l0
   repeat' first
   | (with_reducible exact ih0 _ _ _)
   | (with_reducible exact ih1 _ _ _ _)
   | (with_reducible exact impl_Node_valid.mono _ _ _ _ _ _ _ _)
   | (with_reducible exact LeO.refl _)
   | (with_reducible exact LeO.none _)
   | (with_reducible refine LeO.ite ?_ ?_)
   | (with_reducible refine LeO.bind ?_ (fun _ => ?_))
   | exact ih0 _ _ _
   | exact ih1 _ _ _ _
   | exact impl_Node_valid.mono _ _ _ _ _ _ _ _
   | exact LeO.none _
   | refine LeO.ite ?_ ?_
   | refine LeO.bind ?_ (fun _ => ?_)
theorem impl_ValidTxn.mono : ∀ a0 a1 k, LeO (impl_ValidTxn.f k a0 a1) (impl_ValidTxn.f (k + 1) a0 a1) := by
 intro a0 a1 k
 obtain ⟨ih0, ih1⟩ := impl_ValidTxn.mono_l k
 unfold impl_ValidTxn.f
 repeat' first
   | (with_reducible exact ih0 _ _ _)
   | (with_reducible exact ih1 _ _ _ _)
   | (with_reducible exact impl_Node_valid.mono _ _ _ _ _ _ _ _)
   | (with_reducible exact LeO.refl _)
   | (with_reducible exact LeO.none _)
   | (with_reducible refine LeO.ite ?_ ?_)
   | (with_reducible refine LeO.bind ?_ (fun _ => ?_))
   | exact ih0 _ _ _
   | exact ih1 _ _ _ _
   | exact impl_Node_valid.mono _ _ _ _ _ _ _ _
   | exact LeO.none _
   | refine LeO.ite ?_ ?_
   | refine LeO.bind ?_ (fun _ => ?_)
set_option maxHeartbeats 8000000 in
set_option maxRecDepth 100000 in
theorem impl_ValidTxn.calls (k : Nat) (a0_0 : Int) (A0_1 : Option Addr) (c0_1 : Nat) (l0_1 : List (S108)) (r : Bool) (w : World) (hr0_1 : Kd.C k108 w A0_1 l0_1.length l0_1) (hc0_1 : l0_1.length ≤ c0_1) (h : impl_ValidTxn.f k a0_0 l0_1 = some r) (hGMAX_ : Go.Proofs.YtfiojiokmkiflaaDoorH.GFMAX w) :
  Calls Tryd.prog 63 #[.agg #[.int .i64 a0_0, .slice A0_1 l0_1.length c0_1]] w fun e w' => e = .returned (.bool r) ∧ Below w.heap.size w w' := by
 have HGMAX_ := Aside0.mk hGMAX_
 clear hGMAX_
 have hu55 := Tryd.underlying55
 have hu108 := Tryd.underlying108
 have hu77 := Tryd.underlying77
 have HR0_1 := Aside0.mk hr0_1
 have HC0_1 := Aside0.mk hc0_1
 clear hr0_1 hc0_1
 have HB := Aside0.mk (Below.refl w.heap.size w)
 have H : (if a0_0 < 1 then (impl_ValidTxn.j0 k true a0_0 l0_1) else (if a0_0 > 2147483647 then (impl_ValidTxn.j0 k true a0_0 l0_1) else (impl_ValidTxn.j0 k (decide ((l0_1.length : Int) > 1000)) a0_0 l0_1))) = some r := h
 clear h
 have HC2 := Aside0.mk H
 clear H
 go_enter Tryd.func63, Tryd.ntmps63
 go_upto_region 1 with (first | ((with_reducible refine zu (N := 1) rfl ?_); (try (refine gate_guard (by rfl) ?_; dsimp only)); refine zy ?hg (N := 1) ?hd (cs := #[.int .i64 a0_0, .slice A0_1 l0_1.length c0_1]) (t := 55) ?hr ?_; (case hd => rfl); (case hg => rfl); (case hr => first | (go_simp; done) | (go_simp; rfl)); intro zE hg w3 hbox hb; have n0_ := Aside0.mk (zn (by exact bl HB.out) hb); have n1_ := Aside0.mk (hbox); have n2_ := Aside0.mk ((by rw [hg]; exact (zm (by exact bl HB.out)) : w.heap.size ≤ zE)); have n3_ := Aside0.mk ((by rw [hg]; exact (zm (by exact bl HB.out)) : w.heap.size ≤ zE)); clear HB; have HB := n0_; have zD := n1_; have GW259 := n2_; have zG := n3_; clear n0_ n1_ n2_ n3_; clear hb hbox hg))
 (try simp only [Act.put, List.setIfInBounds_toArray, List.set_cons_zero, List.set_cons_succ])
 go_cut [19] (fun v19 wc => ∃ (kq : Nat) (x19_1 : Bool), v19 = .bool x19_1 ∧ Aside0 (impl_ValidTxn.j0 kq x19_1 a0_0 l0_1 = some r) ∧ Aside0 (kq ≤ k) ∧ Aside0 (wc.heap[zE]? = some (.cells #[.int .i64 a0_0, (.slice A0_1 l0_1.length c0_1)] 55 (0, 0))) ∧ Aside0 (Below w.heap.size w wc))
 case first =>
  have H := HC2.out
  clear HC2
  by_cases c4 : a0_0 < 1
  ·rw [if_pos c4] at H
   have c4b0 : decide (a0_0 < 1) = true := decide_eq_true c4
   clear c4
   (first | rw [c4b0] | (simp only [zo, zp]; rw [c4b0]) | skip)
   have H' := Aside0.mk H
   clear H
   have zI : w3.cell? ⟨zE, 0, none⟩ = some (.int .i64 a0_0) := (zc zD.out 0).trans rfl
   have zJ : w3.cell? ⟨zE, 1, none⟩ = some (.slice A0_1 l0_1.length c0_1) := (zc zD.out 1).trans rfl
   have zK := ze zD.out 0
   have zL := ze zD.out 1
   go_wp2
   go_meet
   case rel => exact ⟨_, (true), (by first | rfl | (simp [*]; done)), H', ⟨by first | omega | exact Nat.le_refl _⟩, ⟨BL zD.out⟩, ⟨by repeat (first | (with_reducible first | exact HB.out | apply zh | apply zf | apply zg | refine zd ?_ zG.out) | exact HB.out)⟩⟩
  ·rw [if_neg c4] at H
   have c4b0 : decide (a0_0 < 1) = false := decide_eq_false c4
   clear c4
   (first | rw [c4b0] | (simp only [zo, zp]; rw [c4b0]) | skip)
   by_cases c6 : a0_0 > 2147483647
   ·rw [if_pos c6] at H
    have c6b0 : decide (2147483647 < a0_0) = true := decide_eq_true c6
    clear c6
    have H' := Aside0.mk H
    clear H
    have zM : w3.cell? ⟨zE, 0, none⟩ = some (.int .i64 a0_0) := (zc zD.out 0).trans rfl
    have zN : w3.cell? ⟨zE, 1, none⟩ = some (.slice A0_1 l0_1.length c0_1) := (zc zD.out 1).trans rfl
    have zO := ze zD.out 0
    have zP := ze zD.out 1
    go_wp2
    go_meet
    case rel => exact ⟨_, (true), (by first | rfl | (simp [*]; done)), H', ⟨by first | omega | exact Nat.le_refl _⟩, ⟨BL zD.out⟩, ⟨by repeat (first | (with_reducible first | exact HB.out | apply zh | apply zf | apply zg | refine zd ?_ zG.out) | exact HB.out)⟩⟩
   ·rw [if_neg c6] at H
    have c6b0 : decide (2147483647 < a0_0) = false := decide_eq_false c6
    clear c6
    have H' := Aside0.mk H
    clear H
    have zQ : w3.cell? ⟨zE, 0, none⟩ = some (.int .i64 a0_0) := (zc zD.out 0).trans rfl
    have zR : w3.cell? ⟨zE, 1, none⟩ = some (.slice A0_1 l0_1.length c0_1) := (zc zD.out 1).trans rfl
    have zS := ze zD.out 0
    have zT := ze zD.out 1
    go_wp2
    go_meet
    case rel => exact ⟨_, (decide ((l0_1.length : Int) > 1000)), (by first | rfl | (simp [*]; done)), H', ⟨by first | omega | exact Nat.le_refl _⟩, ⟨BL zD.out⟩, ⟨by repeat (first | (with_reducible first | exact HB.out | apply zh | apply zf | apply zg | refine zd ?_ zG.out) | exact HB.out)⟩⟩
 case rest =>
  clear HC2
  try clear p2
  try clear c4
  try clear c4b0
  try clear c6
  try clear c6b0
  try clear zI
  try clear zJ
  try clear zM
  try clear zN
  try clear zQ
  try clear zR
  try clear zK
  try clear zL
  try clear zO
  try clear zP
  try clear zS
  try clear zT
  obtain ⟨kq, x19_1, rfl, HA, HJ1, zD, HB⟩ := hcut
  cases kq with
  | zero => exact absurd HA.out (by simp [impl_ValidTxn.j0])
  | succ kj1 =>
   have H := HA.out
   clear HA
   simp only [impl_ValidTxn.j0] at H
   by_cases c9 : x19_1 = true
   ·subst c9
    rw [if_pos rfl] at H
    obtain rfl := Option.some.inj H
    go_wp2
    go_ret
    exact ⟨by first | rfl | (simp [*] <;> rfl), by repeat (first | (with_reducible first | exact HB.out | apply zh | apply zf | apply zg | refine zd ?_ zG.out) | exact HB.out)⟩
   ·replace c9 := Bool.eq_false_iff.mpr c9
    subst c9
    rw [if_neg (show ¬ (false = true) by decide)] at H
    have H' := Aside0.mk H
    clear H
    have zU : wc.cell? ⟨zE, 0, none⟩ = some (.int .i64 a0_0) := (zc zD.out 0).trans rfl
    have zV : wc.cell? ⟨zE, 1, none⟩ = some (.slice A0_1 l0_1.length c0_1) := (zc zD.out 1).trans rfl
    have zW := ze zD.out 0
    have zX := ze zD.out 1
    go_wp2
    go_loopg [3, 23] kj1 (fun kq v3 v23 w' => ∃ (x3_2 : ByteArray) (x23_2 : Int), v3 = .string x3_2 ∧ v23 = .int .i64 x23_2 ∧ Aside0 (impl_ValidTxn.l0 kq x3_2 l0_1 (l0_1.length : Int) x23_2 = some r) ∧ Aside0 (kq ≤ kj1) ∧ Aside0 (w'.heap[zE]? = some (.cells #[.int .i64 a0_0, (.slice A0_1 l0_1.length c0_1)] 55 (0, 0))) ∧ Aside0 (Below w.heap.size w w'))
    case atStart => exact ⟨((⟨#[]⟩ : ByteArray)), (0), (by first | rfl | (simp [*]; done)), (by first | rfl | (simp [*]; done)), H', ⟨Nat.le_refl _⟩, ⟨BL zD.out⟩, ⟨by repeat (first | (with_reducible first | exact HB.out | apply zh | apply zf | apply zg | refine zd ?_ zG.out) | exact HB.out)⟩⟩
    case round =>
     clear H'
     try clear p2
     try clear c4
     try clear c4b0
     try clear c6
     try clear c6b0
     try clear c9
     try clear zU
     try clear zV
     try clear zI
     try clear zJ
     try clear zM
     try clear zN
     try clear zQ
     try clear zR
     try clear zW
     try clear zX
     try clear zK
     try clear zL
     try clear zO
     try clear zP
     try clear zS
     try clear zT
     try clear p2
     obtain ⟨x3_2, x23_2, rfl, rfl, HA, HK2, zD, HB⟩ := hrel
     cases gk with
     | zero => exact absurd HA.out (by simp [impl_ValidTxn.l0])
     | succ k2 =>
      have H := HA.out
      clear HA
      simp only [impl_ValidTxn.l0] at H
      by_cases c11 : x23_2 < (l0_1.length : Int)
      ·rw [if_pos c11] at H
       have c11b0 : decide (x23_2 < (l0_1.length : Int)) = true := decide_eq_true c11
       clear c11
       by_cases c12 : 0 ≤ x23_2
       ·rw [if_pos c12] at H
        have c12b0 : decide (0 ≤ x23_2) = true := decide_eq_true c12
        clear c12
        by_cases c13 : x23_2 < (l0_1.length : Int)
        ·rw [if_pos c13] at H
         have c13b0 : decide (x23_2 < (l0_1.length : Int)) = true := decide_eq_true c13
         clear c13
         replace H := Option.bind_eq_some_iff.mp H
         obtain ⟨t262, A140, H⟩ := H
         try dsimp only at H
         have A14 := Aside0.mk A140
         clear A140
         by_cases c15 : t262 = true
         ·subst c15
          rw [if_pos rfl] at H
          by_cases c16 : ((Op.bytesLess x3_2.toList (((rd_T108 l0_1 x23_2).f1.f0).toList)) = true)
          ·rw [if_pos c16] at H
           have c16b0 : (Op.bytesLess x3_2.toList (((rd_T108 l0_1 x23_2).f1.f0).toList)) = true := c16
           clear c16
           obtain ⟨bq17, hbq17⟩ : ∃ b_ : Bool, b_ = ((rd_T108 l0_1 x23_2).f0) := ⟨_, rfl⟩
           replace H : (if bq17 = true then (if (!((((rd_T108 l0_1 x23_2).f1.f1).toList) == ([] : List UInt8)) || (!(((rd_T108 l0_1 x23_2).f1.f2) == 0) || (!(((rd_T108 l0_1 x23_2).f1.f3) == 0) || (!(((rd_T108 l0_1 x23_2).f1.f4) == 0) || (!(((rd_T108 l0_1 x23_2).f1.f5) == 0) || (!(((rd_T108 l0_1 x23_2).f1.f6) == 0))))))) = true then (some false) else (impl_ValidTxn.l0 k2 ((rd_T108 l0_1 x23_2).f1.f0) l0_1 (l0_1.length : Int) (wrap64 (x23_2 + 1)))) else (impl_ValidTxn.l0 k2 ((rd_T108 l0_1 x23_2).f1.f0) l0_1 (l0_1.length : Int) (wrap64 (x23_2 + 1)))) = some r := by rw [← hbq17] at H; exact H
           have Nbq17 := Aside0.mk hbq17
           clear hbq17
           by_cases c18 : bq17 = true
           ·subst c18
            rw [if_pos rfl] at H
            by_cases c19 : (!((((rd_T108 l0_1 x23_2).f1.f1).toList) == ([] : List UInt8)) || (!(((rd_T108 l0_1 x23_2).f1.f2) == 0) || (!(((rd_T108 l0_1 x23_2).f1.f3) == 0) || (!(((rd_T108 l0_1 x23_2).f1.f4) == 0) || (!(((rd_T108 l0_1 x23_2).f1.f5) == 0) || (!(((rd_T108 l0_1 x23_2).f1.f6) == 0))))))) = true
            ·rw [if_pos c19] at H
             have c19b0 : (!((((rd_T108 l0_1 x23_2).f1.f1).toList)).isEmpty || (!(((rd_T108 l0_1 x23_2).f1.f2) == 0) || (!(((rd_T108 l0_1 x23_2).f1.f3) == 0) || (!(((rd_T108 l0_1 x23_2).f1.f4) == 0) || (!(((rd_T108 l0_1 x23_2).f1.f5) == 0) || (!(((rd_T108 l0_1 x23_2).f1.f6) == 0))))))) = true := by simp only [← Go.Proofs.YtfiojiokmkiflaaDoorH.nil_isEmpty]; exact c19
             clear c19
             obtain rfl := Option.some.inj H
             have p260 : 0 ≤ (x23_2 : Int) := of_decide_eq_true (by with_reducible assumption)
             have q260 : x23_2 < (l0_1.length : Int) := of_decide_eq_true (by with_reducible assumption)
             obtain ⟨ad260, e260, hx260_0, hx260_1, hx260_2, hx260_3, hx260_4, hx260_5, hx260_6, hx260_7⟩ := at_T108 (Kd.C_below HR0_1.out HB.out) x23_2 p260 q260
             (try rw [← Nbq17.out] at hx260_0)
             cases e260
             replace p260 := eq_true p260
             replace q260 := eq_true q260
             go_wp2_with (first | ((with_reducible refine zu (N := 5) rfl ?_); (try (refine gate_guard (by rfl) ?_; dsimp only)); refine zy ?hg (N := 5) ?hd (cs := #[.bool false, .string (⟨#[]⟩ : ByteArray), .string (⟨#[]⟩ : ByteArray), .int .i64 0, .int .i64 0, .int .i64 0, .int .i64 0, .int .i64 0]) (t := 108) ?hr ?_; (case hd => rfl); (case hg => rfl); (case hr => first | (go_simp; done) | (go_simp; rfl)); intro zB hg w20 hbox hb; have n0_ := Aside0.mk (zi (g := zE) (o := .cells #[.int .i64 a0_0, .slice (some ad260) l0_1.length c0_1] 55 (0, 0)) (BL zD.out) hb); have n1_ := Aside0.mk (zn (by exact bl HB.out) hb); have n2_ := Aside0.mk (hbox); have n3_ := Aside0.mk ((by rw [hg]; exact (zm (by exact bl HB.out)) : w.heap.size ≤ zB)); have n4_ := Aside0.mk ((by rw [hg]; exact (zm (by exact bl HB.out)) : w.heap.size ≤ zB)); have n5_ := Aside0.mk ((by rw [hg]; exact Nat.ne_of_lt (zt (g := zE) (o := .cells #[.int .i64 a0_0, .slice (some ad260) l0_1.length c0_1] 55 (0, 0)) (BL zD.out)) : zE ≠ zB)); have n6_ := Aside0.mk ((by rw [hg]; exact Nat.ne_of_gt (zt (g := zE) (o := .cells #[.int .i64 a0_0, .slice (some ad260) l0_1.length c0_1] 55 (0, 0)) (BL zD.out)) : zB ≠ zE)); clear zD; clear HB; have zD := n0_; have HB := n1_; have zA := n2_; have GW261 := n3_; have zH := n4_; have zC := n5_; have zF := n6_; clear n0_ n1_ n2_ n3_ n4_ n5_ n6_; clear hb hbox hg; have zMd := zF.out; have zNd := zC.out; have zY : w20.cell? ⟨zB, 0, none⟩ = some (.bool false) := (zc zA.out 0).trans rfl; have zZ : w20.cell? ⟨zB, 1, none⟩ = some (.string (⟨#[]⟩ : ByteArray)) := (zc zA.out 1).trans rfl; have zab : w20.cell? ⟨zB, 2, none⟩ = some (.string (⟨#[]⟩ : ByteArray)) := (zc zA.out 2).trans rfl; have zbb : w20.cell? ⟨zB, 3, none⟩ = some (.int .i64 0) := (zc zA.out 3).trans rfl; have zcb : w20.cell? ⟨zB, 4, none⟩ = some (.int .i64 0) := (zc zA.out 4).trans rfl; have zdb : w20.cell? ⟨zB, 5, none⟩ = some (.int .i64 0) := (zc zA.out 5).trans rfl; have zeb : w20.cell? ⟨zB, 6, none⟩ = some (.int .i64 0) := (zc zA.out 6).trans rfl; have zfb : w20.cell? ⟨zB, 7, none⟩ = some (.int .i64 0) := (zc zA.out 7).trans rfl; have zgb := ze zA.out 0; have zhb := ze zA.out 1; have zib := ze zA.out 2; have zjb := ze zA.out 3; have zkb := ze zA.out 4; have zlb := ze zA.out 5; have zmb := ze zA.out 6; have znb := ze zA.out 7) | ((with_reducible refine zr (f := 91) rfl ?_); refine zz (some 29) rfl rfl Tryd.func91 (by kernel_rfl) rfl #[.agg #[.string ((rd_T108 l0_1 x23_2).f1.f0), .string ((rd_T108 l0_1 x23_2).f1.f1), .int .i64 ((rd_T108 l0_1 x23_2).f1.f2), .int .i64 ((rd_T108 l0_1 x23_2).f1.f3), .int .i64 ((rd_T108 l0_1 x23_2).f1.f4), .int .i64 ((rd_T108 l0_1 x23_2).f1.f5), .int .i64 ((rd_T108 l0_1 x23_2).f1.f6)]] rfl (by (try simp only [List.map_toArray, List.map_cons, List.map_nil]); first | done | rfl) ?_; (with_reducible refine (impl_Node_valid.calls k2 ((rd_T108 l0_1 x23_2).f1.f0) ((rd_T108 l0_1 x23_2).f1.f1) ((rd_T108 l0_1 x23_2).f1.f2) ((rd_T108 l0_1 x23_2).f1.f3) ((rd_T108 l0_1 x23_2).f1.f4) ((rd_T108 l0_1 x23_2).f1.f5) ((rd_T108 l0_1 x23_2).f1.f6) true _ A14.out ?globMAX_).mono ?_); (case globMAX_ => exact Go.Proofs.YtfiojiokmkiflaaDoorH.GFMAX.below HGMAX_.out (by repeat (first | (with_reducible first | exact HB.out | exact Below.refl _ _ | apply zh | apply zf | apply zg | refine zd ?_ (Aside0.out (by assumption))) | exact HB.out))); rintro e w23 ⟨rfl, hb⟩; refine ⟨_, rfl, ?_⟩; have n0_ := Aside0.mk (zi (g := zE) (o := .cells #[.int .i64 a0_0, .slice (some ad260) l0_1.length c0_1] 55 (0, 0)) (by (with_reducible repeat (first | refine zk ?_ _ | refine zl ?_ | refine zj ?_ _)); refine zw ?_ zC.out _; (with_reducible repeat (first | refine zk ?_ _ | refine zl ?_ | refine zj ?_ _)); refine zw ?_ zC.out _; (with_reducible repeat (first | refine zk ?_ _ | refine zl ?_ | refine zj ?_ _)); refine zw ?_ zC.out _; (with_reducible repeat (first | refine zk ?_ _ | refine zl ?_ | refine zj ?_ _)); refine zw ?_ zC.out _; (with_reducible repeat (first | refine zk ?_ _ | refine zl ?_ | refine zj ?_ _)); refine zw ?_ zC.out _; (with_reducible repeat (first | refine zk ?_ _ | refine zl ?_ | refine zj ?_ _)); refine zw ?_ zC.out _; (with_reducible repeat (first | refine zk ?_ _ | refine zl ?_ | refine zj ?_ _)); refine zw ?_ zC.out _; (with_reducible repeat (first | refine zk ?_ _ | refine zl ?_ | refine zj ?_ _)); refine zw ?_ zC.out _; (with_reducible repeat (first | refine zk ?_ _ | refine zl ?_ | refine zj ?_ _)); exact zD.out) hb); have n1_ := Aside0.mk (zi (g := zB) (o := .cells #[.bool true, .string ((rd_T108 l0_1 x23_2).f1.f0), .string ((rd_T108 l0_1 x23_2).f1.f1), .int .i64 ((rd_T108 l0_1 x23_2).f1.f2), .int .i64 ((rd_T108 l0_1 x23_2).f1.f3), .int .i64 ((rd_T108 l0_1 x23_2).f1.f4), .int .i64 ((rd_T108 l0_1 x23_2).f1.f5), .int .i64 ((rd_T108 l0_1 x23_2).f1.f6)] 108 (0, 0)) (by (with_reducible repeat (first | refine zk ?_ _ | refine zl ?_ | refine zj ?_ _)); refine zv (cs := #[.bool true, .string ((rd_T108 l0_1 x23_2).f1.f0), .string ((rd_T108 l0_1 x23_2).f1.f1), .int .i64 ((rd_T108 l0_1 x23_2).f1.f2), .int .i64 ((rd_T108 l0_1 x23_2).f1.f3), .int .i64 ((rd_T108 l0_1 x23_2).f1.f4), .int .i64 ((rd_T108 l0_1 x23_2).f1.f5), .int .i64 0]) ?_ 7 _ rfl; (with_reducible repeat (first | refine zk ?_ _ | refine zl ?_ | refine zj ?_ _)); refine zv (cs := #[.bool true, .string ((rd_T108 l0_1 x23_2).f1.f0), .string ((rd_T108 l0_1 x23_2).f1.f1), .int .i64 ((rd_T108 l0_1 x23_2).f1.f2), .int .i64 ((rd_T108 l0_1 x23_2).f1.f3), .int .i64 ((rd_T108 l0_1 x23_2).f1.f4), .int .i64 0, .int .i64 0]) ?_ 6 _ rfl; (with_reducible repeat (first | refine zk ?_ _ | refine zl ?_ | refine zj ?_ _)); refine zv (cs := #[.bool true, .string ((rd_T108 l0_1 x23_2).f1.f0), .string ((rd_T108 l0_1 x23_2).f1.f1), .int .i64 ((rd_T108 l0_1 x23_2).f1.f2), .int .i64 ((rd_T108 l0_1 x23_2).f1.f3), .int .i64 0, .int .i64 0, .int .i64 0]) ?_ 5 _ rfl; (with_reducible repeat (first | refine zk ?_ _ | refine zl ?_ | refine zj ?_ _)); refine zv (cs := #[.bool true, .string ((rd_T108 l0_1 x23_2).f1.f0), .string ((rd_T108 l0_1 x23_2).f1.f1), .int .i64 ((rd_T108 l0_1 x23_2).f1.f2), .int .i64 0, .int .i64 0, .int .i64 0, .int .i64 0]) ?_ 4 _ rfl; (with_reducible repeat (first | refine zk ?_ _ | refine zl ?_ | refine zj ?_ _)); refine zv (cs := #[.bool true, .string ((rd_T108 l0_1 x23_2).f1.f0), .string ((rd_T108 l0_1 x23_2).f1.f1), .int .i64 0, .int .i64 0, .int .i64 0, .int .i64 0, .int .i64 0]) ?_ 3 _ rfl; (with_reducible repeat (first | refine zk ?_ _ | refine zl ?_ | refine zj ?_ _)); refine zv (cs := #[.bool true, .string ((rd_T108 l0_1 x23_2).f1.f0), .string (⟨#[]⟩ : ByteArray), .int .i64 0, .int .i64 0, .int .i64 0, .int .i64 0, .int .i64 0]) ?_ 2 _ rfl; (with_reducible repeat (first | refine zk ?_ _ | refine zl ?_ | refine zj ?_ _)); refine zv (cs := #[.bool true, .string (⟨#[]⟩ : ByteArray), .string (⟨#[]⟩ : ByteArray), .int .i64 0, .int .i64 0, .int .i64 0, .int .i64 0, .int .i64 0]) ?_ 1 _ rfl; (with_reducible repeat (first | refine zk ?_ _ | refine zl ?_ | refine zj ?_ _)); refine zv (cs := #[.bool false, .string (⟨#[]⟩ : ByteArray), .string (⟨#[]⟩ : ByteArray), .int .i64 0, .int .i64 0, .int .i64 0, .int .i64 0, .int .i64 0]) ?_ 0 _ rfl; (with_reducible repeat (first | refine zk ?_ _ | refine zl ?_ | refine zj ?_ _)); exact zA.out) hb); have n2_ := Aside0.mk (zn (by repeat (first | (with_reducible first | exact HB.out | apply zh | apply zf | apply zg | refine zd ?_ zG.out | refine zd ?_ zH.out) | exact HB.out)) hb); clear zD; clear zA; clear HB; have zD := n0_; have zA := n1_; have HB := n2_; clear n0_ n1_ n2_; (try clear hb); (try clear hb2); (try clear hk); (try clear hi); have zob : w23.cell? ⟨zB, 0, none⟩ = some (.bool true) := (zc zA.out 0).trans rfl; have zpb : w23.cell? ⟨zB, 1, none⟩ = some (.string ((rd_T108 l0_1 x23_2).f1.f0)) := (zc zA.out 1).trans rfl; have zqb : w23.cell? ⟨zB, 2, none⟩ = some (.string ((rd_T108 l0_1 x23_2).f1.f1)) := (zc zA.out 2).trans rfl; have zrb : w23.cell? ⟨zB, 3, none⟩ = some (.int .i64 ((rd_T108 l0_1 x23_2).f1.f2)) := (zc zA.out 3).trans rfl; have zsb : w23.cell? ⟨zB, 4, none⟩ = some (.int .i64 ((rd_T108 l0_1 x23_2).f1.f3)) := (zc zA.out 4).trans rfl; have ztb : w23.cell? ⟨zB, 5, none⟩ = some (.int .i64 ((rd_T108 l0_1 x23_2).f1.f4)) := (zc zA.out 5).trans rfl; have zub : w23.cell? ⟨zB, 6, none⟩ = some (.int .i64 ((rd_T108 l0_1 x23_2).f1.f5)) := (zc zA.out 6).trans rfl; have zvb : w23.cell? ⟨zB, 7, none⟩ = some (.int .i64 ((rd_T108 l0_1 x23_2).f1.f6)) := (zc zA.out 7).trans rfl; have zwb := ze zA.out 0; have zxb := ze zA.out 1; have zyb := ze zA.out 2; have zzb := ze zA.out 3; have zAb := ze zA.out 4; have zBb := ze zA.out 5; have zCb := ze zA.out 6; have zDb := ze zA.out 7))
             go_ret
             exact ⟨by first | rfl | (simp [*] <;> rfl), by repeat (first | (with_reducible first | exact HB.out | apply zh | apply zf | apply zg | refine zd ?_ zG.out | refine zd ?_ zH.out) | exact HB.out)⟩
            ·rw [if_neg c19] at H
             have c19b0 : (!((((rd_T108 l0_1 x23_2).f1.f1).toList)).isEmpty || (!(((rd_T108 l0_1 x23_2).f1.f2) == 0) || (!(((rd_T108 l0_1 x23_2).f1.f3) == 0) || (!(((rd_T108 l0_1 x23_2).f1.f4) == 0) || (!(((rd_T108 l0_1 x23_2).f1.f5) == 0) || (!(((rd_T108 l0_1 x23_2).f1.f6) == 0))))))) = false := by simp only [← Go.Proofs.YtfiojiokmkiflaaDoorH.nil_isEmpty]; simpa using c19
             clear c19
             have H' := Aside0.mk H
             clear H
             have p260 : 0 ≤ (x23_2 : Int) := of_decide_eq_true (by with_reducible assumption)
             have q260 : x23_2 < (l0_1.length : Int) := of_decide_eq_true (by with_reducible assumption)
             obtain ⟨ad260, e260, hx260_0, hx260_1, hx260_2, hx260_3, hx260_4, hx260_5, hx260_6, hx260_7⟩ := at_T108 (Kd.C_below HR0_1.out HB.out) x23_2 p260 q260
             (try rw [← Nbq17.out] at hx260_0)
             cases e260
             replace p260 := eq_true p260
             replace q260 := eq_true q260
             go_wp2_with (first | ((with_reducible refine zu (N := 5) rfl ?_); (try (refine gate_guard (by rfl) ?_; dsimp only)); refine zy ?hg (N := 5) ?hd (cs := #[.bool false, .string (⟨#[]⟩ : ByteArray), .string (⟨#[]⟩ : ByteArray), .int .i64 0, .int .i64 0, .int .i64 0, .int .i64 0, .int .i64 0]) (t := 108) ?hr ?_; (case hd => rfl); (case hg => rfl); (case hr => first | (go_simp; done) | (go_simp; rfl)); intro zB hg w25 hbox hb; have n0_ := Aside0.mk (zi (g := zE) (o := .cells #[.int .i64 a0_0, .slice (some ad260) l0_1.length c0_1] 55 (0, 0)) (BL zD.out) hb); have n1_ := Aside0.mk (zn (by exact bl HB.out) hb); have n2_ := Aside0.mk (hbox); have n3_ := Aside0.mk ((by rw [hg]; exact (zm (by exact bl HB.out)) : w.heap.size ≤ zB)); have n4_ := Aside0.mk ((by rw [hg]; exact (zm (by exact bl HB.out)) : w.heap.size ≤ zB)); have n5_ := Aside0.mk ((by rw [hg]; exact Nat.ne_of_lt (zt (g := zE) (o := .cells #[.int .i64 a0_0, .slice (some ad260) l0_1.length c0_1] 55 (0, 0)) (BL zD.out)) : zE ≠ zB)); have n6_ := Aside0.mk ((by rw [hg]; exact Nat.ne_of_gt (zt (g := zE) (o := .cells #[.int .i64 a0_0, .slice (some ad260) l0_1.length c0_1] 55 (0, 0)) (BL zD.out)) : zB ≠ zE)); clear zD; clear HB; have zD := n0_; have HB := n1_; have zA := n2_; have GW261 := n3_; have zH := n4_; have zC := n5_; have zF := n6_; clear n0_ n1_ n2_ n3_ n4_ n5_ n6_; clear hb hbox hg; have zOd := zF.out; have zPd := zC.out; have zEb : w25.cell? ⟨zB, 0, none⟩ = some (.bool false) := (zc zA.out 0).trans rfl; have zFb : w25.cell? ⟨zB, 1, none⟩ = some (.string (⟨#[]⟩ : ByteArray)) := (zc zA.out 1).trans rfl; have zGb : w25.cell? ⟨zB, 2, none⟩ = some (.string (⟨#[]⟩ : ByteArray)) := (zc zA.out 2).trans rfl; have zHb : w25.cell? ⟨zB, 3, none⟩ = some (.int .i64 0) := (zc zA.out 3).trans rfl; have zIb : w25.cell? ⟨zB, 4, none⟩ = some (.int .i64 0) := (zc zA.out 4).trans rfl; have zJb : w25.cell? ⟨zB, 5, none⟩ = some (.int .i64 0) := (zc zA.out 5).trans rfl; have zKb : w25.cell? ⟨zB, 6, none⟩ = some (.int .i64 0) := (zc zA.out 6).trans rfl; have zLb : w25.cell? ⟨zB, 7, none⟩ = some (.int .i64 0) := (zc zA.out 7).trans rfl; have zMb := ze zA.out 0; have zNb := ze zA.out 1; have zOb := ze zA.out 2; have zPb := ze zA.out 3; have zQb := ze zA.out 4; have zRb := ze zA.out 5; have zSb := ze zA.out 6; have zTb := ze zA.out 7) | ((with_reducible refine zr (f := 91) rfl ?_); refine zz (some 29) rfl rfl Tryd.func91 (by kernel_rfl) rfl #[.agg #[.string ((rd_T108 l0_1 x23_2).f1.f0), .string ((rd_T108 l0_1 x23_2).f1.f1), .int .i64 ((rd_T108 l0_1 x23_2).f1.f2), .int .i64 ((rd_T108 l0_1 x23_2).f1.f3), .int .i64 ((rd_T108 l0_1 x23_2).f1.f4), .int .i64 ((rd_T108 l0_1 x23_2).f1.f5), .int .i64 ((rd_T108 l0_1 x23_2).f1.f6)]] rfl (by (try simp only [List.map_toArray, List.map_cons, List.map_nil]); first | done | rfl) ?_; (with_reducible refine (impl_Node_valid.calls k2 ((rd_T108 l0_1 x23_2).f1.f0) ((rd_T108 l0_1 x23_2).f1.f1) ((rd_T108 l0_1 x23_2).f1.f2) ((rd_T108 l0_1 x23_2).f1.f3) ((rd_T108 l0_1 x23_2).f1.f4) ((rd_T108 l0_1 x23_2).f1.f5) ((rd_T108 l0_1 x23_2).f1.f6) true _ A14.out ?globMAX_).mono ?_); (case globMAX_ => exact Go.Proofs.YtfiojiokmkiflaaDoorH.GFMAX.below HGMAX_.out (by repeat (first | (with_reducible first | exact HB.out | exact Below.refl _ _ | apply zh | apply zf | apply zg | refine zd ?_ (Aside0.out (by assumption))) | exact HB.out))); rintro e w28 ⟨rfl, hb⟩; refine ⟨_, rfl, ?_⟩; have n0_ := Aside0.mk (zi (g := zE) (o := .cells #[.int .i64 a0_0, .slice (some ad260) l0_1.length c0_1] 55 (0, 0)) (by (with_reducible repeat (first | refine zk ?_ _ | refine zl ?_ | refine zj ?_ _)); refine zw ?_ zC.out _; (with_reducible repeat (first | refine zk ?_ _ | refine zl ?_ | refine zj ?_ _)); refine zw ?_ zC.out _; (with_reducible repeat (first | refine zk ?_ _ | refine zl ?_ | refine zj ?_ _)); refine zw ?_ zC.out _; (with_reducible repeat (first | refine zk ?_ _ | refine zl ?_ | refine zj ?_ _)); refine zw ?_ zC.out _; (with_reducible repeat (first | refine zk ?_ _ | refine zl ?_ | refine zj ?_ _)); refine zw ?_ zC.out _; (with_reducible repeat (first | refine zk ?_ _ | refine zl ?_ | refine zj ?_ _)); refine zw ?_ zC.out _; (with_reducible repeat (first | refine zk ?_ _ | refine zl ?_ | refine zj ?_ _)); refine zw ?_ zC.out _; (with_reducible repeat (first | refine zk ?_ _ | refine zl ?_ | refine zj ?_ _)); refine zw ?_ zC.out _; (with_reducible repeat (first | refine zk ?_ _ | refine zl ?_ | refine zj ?_ _)); exact zD.out) hb); have n1_ := Aside0.mk (zi (g := zB) (o := .cells #[.bool true, .string ((rd_T108 l0_1 x23_2).f1.f0), .string ((rd_T108 l0_1 x23_2).f1.f1), .int .i64 ((rd_T108 l0_1 x23_2).f1.f2), .int .i64 ((rd_T108 l0_1 x23_2).f1.f3), .int .i64 ((rd_T108 l0_1 x23_2).f1.f4), .int .i64 ((rd_T108 l0_1 x23_2).f1.f5), .int .i64 ((rd_T108 l0_1 x23_2).f1.f6)] 108 (0, 0)) (by (with_reducible repeat (first | refine zk ?_ _ | refine zl ?_ | refine zj ?_ _)); refine zv (cs := #[.bool true, .string ((rd_T108 l0_1 x23_2).f1.f0), .string ((rd_T108 l0_1 x23_2).f1.f1), .int .i64 ((rd_T108 l0_1 x23_2).f1.f2), .int .i64 ((rd_T108 l0_1 x23_2).f1.f3), .int .i64 ((rd_T108 l0_1 x23_2).f1.f4), .int .i64 ((rd_T108 l0_1 x23_2).f1.f5), .int .i64 0]) ?_ 7 _ rfl; (with_reducible repeat (first | refine zk ?_ _ | refine zl ?_ | refine zj ?_ _)); refine zv (cs := #[.bool true, .string ((rd_T108 l0_1 x23_2).f1.f0), .string ((rd_T108 l0_1 x23_2).f1.f1), .int .i64 ((rd_T108 l0_1 x23_2).f1.f2), .int .i64 ((rd_T108 l0_1 x23_2).f1.f3), .int .i64 ((rd_T108 l0_1 x23_2).f1.f4), .int .i64 0, .int .i64 0]) ?_ 6 _ rfl; (with_reducible repeat (first | refine zk ?_ _ | refine zl ?_ | refine zj ?_ _)); refine zv (cs := #[.bool true, .string ((rd_T108 l0_1 x23_2).f1.f0), .string ((rd_T108 l0_1 x23_2).f1.f1), .int .i64 ((rd_T108 l0_1 x23_2).f1.f2), .int .i64 ((rd_T108 l0_1 x23_2).f1.f3), .int .i64 0, .int .i64 0, .int .i64 0]) ?_ 5 _ rfl; (with_reducible repeat (first | refine zk ?_ _ | refine zl ?_ | refine zj ?_ _)); refine zv (cs := #[.bool true, .string ((rd_T108 l0_1 x23_2).f1.f0), .string ((rd_T108 l0_1 x23_2).f1.f1), .int .i64 ((rd_T108 l0_1 x23_2).f1.f2), .int .i64 0, .int .i64 0, .int .i64 0, .int .i64 0]) ?_ 4 _ rfl; (with_reducible repeat (first | refine zk ?_ _ | refine zl ?_ | refine zj ?_ _)); refine zv (cs := #[.bool true, .string ((rd_T108 l0_1 x23_2).f1.f0), .string ((rd_T108 l0_1 x23_2).f1.f1), .int .i64 0, .int .i64 0, .int .i64 0, .int .i64 0, .int .i64 0]) ?_ 3 _ rfl; (with_reducible repeat (first | refine zk ?_ _ | refine zl ?_ | refine zj ?_ _)); refine zv (cs := #[.bool true, .string ((rd_T108 l0_1 x23_2).f1.f0), .string (⟨#[]⟩ : ByteArray), .int .i64 0, .int .i64 0, .int .i64 0, .int .i64 0, .int .i64 0]) ?_ 2 _ rfl; (with_reducible repeat (first | refine zk ?_ _ | refine zl ?_ | refine zj ?_ _)); refine zv (cs := #[.bool true, .string (⟨#[]⟩ : ByteArray), .string (⟨#[]⟩ : ByteArray), .int .i64 0, .int .i64 0, .int .i64 0, .int .i64 0, .int .i64 0]) ?_ 1 _ rfl; (with_reducible repeat (first | refine zk ?_ _ | refine zl ?_ | refine zj ?_ _)); refine zv (cs := #[.bool false, .string (⟨#[]⟩ : ByteArray), .string (⟨#[]⟩ : ByteArray), .int .i64 0, .int .i64 0, .int .i64 0, .int .i64 0, .int .i64 0]) ?_ 0 _ rfl; (with_reducible repeat (first | refine zk ?_ _ | refine zl ?_ | refine zj ?_ _)); exact zA.out) hb); have n2_ := Aside0.mk (zn (by repeat (first | (with_reducible first | exact HB.out | apply zh | apply zf | apply zg | refine zd ?_ zG.out | refine zd ?_ zH.out) | exact HB.out)) hb); clear zD; clear zA; clear HB; have zD := n0_; have zA := n1_; have HB := n2_; clear n0_ n1_ n2_; (try clear hb); (try clear hb2); (try clear hk); (try clear hi); have zUb : w28.cell? ⟨zB, 0, none⟩ = some (.bool true) := (zc zA.out 0).trans rfl; have zVb : w28.cell? ⟨zB, 1, none⟩ = some (.string ((rd_T108 l0_1 x23_2).f1.f0)) := (zc zA.out 1).trans rfl; have zWb : w28.cell? ⟨zB, 2, none⟩ = some (.string ((rd_T108 l0_1 x23_2).f1.f1)) := (zc zA.out 2).trans rfl; have zXb : w28.cell? ⟨zB, 3, none⟩ = some (.int .i64 ((rd_T108 l0_1 x23_2).f1.f2)) := (zc zA.out 3).trans rfl; have zYb : w28.cell? ⟨zB, 4, none⟩ = some (.int .i64 ((rd_T108 l0_1 x23_2).f1.f3)) := (zc zA.out 4).trans rfl; have zZb : w28.cell? ⟨zB, 5, none⟩ = some (.int .i64 ((rd_T108 l0_1 x23_2).f1.f4)) := (zc zA.out 5).trans rfl; have zac : w28.cell? ⟨zB, 6, none⟩ = some (.int .i64 ((rd_T108 l0_1 x23_2).f1.f5)) := (zc zA.out 6).trans rfl; have zbc : w28.cell? ⟨zB, 7, none⟩ = some (.int .i64 ((rd_T108 l0_1 x23_2).f1.f6)) := (zc zA.out 7).trans rfl; have zcc := ze zA.out 0; have zdc := ze zA.out 1; have zec := ze zA.out 2; have zfc := ze zA.out 3; have zgc := ze zA.out 4; have zhc := ze zA.out 5; have zic := ze zA.out 6; have zjc := ze zA.out 7))
             go_roundg k2
             case measure => have := HJ1.out; have := HK2.out; omega
             case rel => exact ⟨((rd_T108 l0_1 x23_2).f1.f0), (wrap64 (x23_2 + 1)), (by first | rfl | (simp [*]; done)), (by first | rfl | (simp [*]; done)), H', ⟨by have := HJ1.out; have := HK2.out; omega⟩, ⟨BL zD.out⟩, ⟨by repeat (first | (with_reducible first | exact HB.out | apply zh | apply zf | apply zg | refine zd ?_ zG.out | refine zd ?_ zH.out) | exact HB.out)⟩⟩
           ·replace c18 := Bool.eq_false_iff.mpr c18
            subst c18
            rw [if_neg (show ¬ (false = true) by decide)] at H
            have H' := Aside0.mk H
            clear H
            have p260 : 0 ≤ (x23_2 : Int) := of_decide_eq_true (by with_reducible assumption)
            have q260 : x23_2 < (l0_1.length : Int) := of_decide_eq_true (by with_reducible assumption)
            obtain ⟨ad260, e260, hx260_0, hx260_1, hx260_2, hx260_3, hx260_4, hx260_5, hx260_6, hx260_7⟩ := at_T108 (Kd.C_below HR0_1.out HB.out) x23_2 p260 q260
            (try rw [← Nbq17.out] at hx260_0)
            cases e260
            replace p260 := eq_true p260
            replace q260 := eq_true q260
            go_wp2_with (first | ((with_reducible refine zu (N := 5) rfl ?_); (try (refine gate_guard (by rfl) ?_; dsimp only)); refine zy ?hg (N := 5) ?hd (cs := #[.bool false, .string (⟨#[]⟩ : ByteArray), .string (⟨#[]⟩ : ByteArray), .int .i64 0, .int .i64 0, .int .i64 0, .int .i64 0, .int .i64 0]) (t := 108) ?hr ?_; (case hd => rfl); (case hg => rfl); (case hr => first | (go_simp; done) | (go_simp; rfl)); intro zB hg w30 hbox hb; have n0_ := Aside0.mk (zi (g := zE) (o := .cells #[.int .i64 a0_0, .slice (some ad260) l0_1.length c0_1] 55 (0, 0)) (BL zD.out) hb); have n1_ := Aside0.mk (zn (by exact bl HB.out) hb); have n2_ := Aside0.mk (hbox); have n3_ := Aside0.mk ((by rw [hg]; exact (zm (by exact bl HB.out)) : w.heap.size ≤ zB)); have n4_ := Aside0.mk ((by rw [hg]; exact (zm (by exact bl HB.out)) : w.heap.size ≤ zB)); have n5_ := Aside0.mk ((by rw [hg]; exact Nat.ne_of_lt (zt (g := zE) (o := .cells #[.int .i64 a0_0, .slice (some ad260) l0_1.length c0_1] 55 (0, 0)) (BL zD.out)) : zE ≠ zB)); have n6_ := Aside0.mk ((by rw [hg]; exact Nat.ne_of_gt (zt (g := zE) (o := .cells #[.int .i64 a0_0, .slice (some ad260) l0_1.length c0_1] 55 (0, 0)) (BL zD.out)) : zB ≠ zE)); clear zD; clear HB; have zD := n0_; have HB := n1_; have zA := n2_; have GW261 := n3_; have zH := n4_; have zC := n5_; have zF := n6_; clear n0_ n1_ n2_ n3_ n4_ n5_ n6_; clear hb hbox hg; have zQd := zF.out; have zRd := zC.out; have zkc : w30.cell? ⟨zB, 0, none⟩ = some (.bool false) := (zc zA.out 0).trans rfl; have zlc : w30.cell? ⟨zB, 1, none⟩ = some (.string (⟨#[]⟩ : ByteArray)) := (zc zA.out 1).trans rfl; have zmc : w30.cell? ⟨zB, 2, none⟩ = some (.string (⟨#[]⟩ : ByteArray)) := (zc zA.out 2).trans rfl; have znc : w30.cell? ⟨zB, 3, none⟩ = some (.int .i64 0) := (zc zA.out 3).trans rfl; have zoc : w30.cell? ⟨zB, 4, none⟩ = some (.int .i64 0) := (zc zA.out 4).trans rfl; have zpc : w30.cell? ⟨zB, 5, none⟩ = some (.int .i64 0) := (zc zA.out 5).trans rfl; have zqc : w30.cell? ⟨zB, 6, none⟩ = some (.int .i64 0) := (zc zA.out 6).trans rfl; have zrc : w30.cell? ⟨zB, 7, none⟩ = some (.int .i64 0) := (zc zA.out 7).trans rfl; have zsc := ze zA.out 0; have ztc := ze zA.out 1; have zuc := ze zA.out 2; have zvc := ze zA.out 3; have zwc := ze zA.out 4; have zxc := ze zA.out 5; have zyc := ze zA.out 6; have zzc := ze zA.out 7) | ((with_reducible refine zr (f := 91) rfl ?_); refine zz (some 29) rfl rfl Tryd.func91 (by kernel_rfl) rfl #[.agg #[.string ((rd_T108 l0_1 x23_2).f1.f0), .string ((rd_T108 l0_1 x23_2).f1.f1), .int .i64 ((rd_T108 l0_1 x23_2).f1.f2), .int .i64 ((rd_T108 l0_1 x23_2).f1.f3), .int .i64 ((rd_T108 l0_1 x23_2).f1.f4), .int .i64 ((rd_T108 l0_1 x23_2).f1.f5), .int .i64 ((rd_T108 l0_1 x23_2).f1.f6)]] rfl (by (try simp only [List.map_toArray, List.map_cons, List.map_nil]); first | done | rfl) ?_; (with_reducible refine (impl_Node_valid.calls k2 ((rd_T108 l0_1 x23_2).f1.f0) ((rd_T108 l0_1 x23_2).f1.f1) ((rd_T108 l0_1 x23_2).f1.f2) ((rd_T108 l0_1 x23_2).f1.f3) ((rd_T108 l0_1 x23_2).f1.f4) ((rd_T108 l0_1 x23_2).f1.f5) ((rd_T108 l0_1 x23_2).f1.f6) true _ A14.out ?globMAX_).mono ?_); (case globMAX_ => exact Go.Proofs.YtfiojiokmkiflaaDoorH.GFMAX.below HGMAX_.out (by repeat (first | (with_reducible first | exact HB.out | exact Below.refl _ _ | apply zh | apply zf | apply zg | refine zd ?_ (Aside0.out (by assumption))) | exact HB.out))); rintro e w33 ⟨rfl, hb⟩; refine ⟨_, rfl, ?_⟩; have n0_ := Aside0.mk (zi (g := zE) (o := .cells #[.int .i64 a0_0, .slice (some ad260) l0_1.length c0_1] 55 (0, 0)) (by (with_reducible repeat (first | refine zk ?_ _ | refine zl ?_ | refine zj ?_ _)); refine zw ?_ zC.out _; (with_reducible repeat (first | refine zk ?_ _ | refine zl ?_ | refine zj ?_ _)); refine zw ?_ zC.out _; (with_reducible repeat (first | refine zk ?_ _ | refine zl ?_ | refine zj ?_ _)); refine zw ?_ zC.out _; (with_reducible repeat (first | refine zk ?_ _ | refine zl ?_ | refine zj ?_ _)); refine zw ?_ zC.out _; (with_reducible repeat (first | refine zk ?_ _ | refine zl ?_ | refine zj ?_ _)); refine zw ?_ zC.out _; (with_reducible repeat (first | refine zk ?_ _ | refine zl ?_ | refine zj ?_ _)); refine zw ?_ zC.out _; (with_reducible repeat (first | refine zk ?_ _ | refine zl ?_ | refine zj ?_ _)); refine zw ?_ zC.out _; (with_reducible repeat (first | refine zk ?_ _ | refine zl ?_ | refine zj ?_ _)); refine zw ?_ zC.out _; (with_reducible repeat (first | refine zk ?_ _ | refine zl ?_ | refine zj ?_ _)); exact zD.out) hb); have n1_ := Aside0.mk (zi (g := zB) (o := .cells #[.bool false, .string ((rd_T108 l0_1 x23_2).f1.f0), .string ((rd_T108 l0_1 x23_2).f1.f1), .int .i64 ((rd_T108 l0_1 x23_2).f1.f2), .int .i64 ((rd_T108 l0_1 x23_2).f1.f3), .int .i64 ((rd_T108 l0_1 x23_2).f1.f4), .int .i64 ((rd_T108 l0_1 x23_2).f1.f5), .int .i64 ((rd_T108 l0_1 x23_2).f1.f6)] 108 (0, 0)) (by (with_reducible repeat (first | refine zk ?_ _ | refine zl ?_ | refine zj ?_ _)); refine zv (cs := #[.bool false, .string ((rd_T108 l0_1 x23_2).f1.f0), .string ((rd_T108 l0_1 x23_2).f1.f1), .int .i64 ((rd_T108 l0_1 x23_2).f1.f2), .int .i64 ((rd_T108 l0_1 x23_2).f1.f3), .int .i64 ((rd_T108 l0_1 x23_2).f1.f4), .int .i64 ((rd_T108 l0_1 x23_2).f1.f5), .int .i64 0]) ?_ 7 _ rfl; (with_reducible repeat (first | refine zk ?_ _ | refine zl ?_ | refine zj ?_ _)); refine zv (cs := #[.bool false, .string ((rd_T108 l0_1 x23_2).f1.f0), .string ((rd_T108 l0_1 x23_2).f1.f1), .int .i64 ((rd_T108 l0_1 x23_2).f1.f2), .int .i64 ((rd_T108 l0_1 x23_2).f1.f3), .int .i64 ((rd_T108 l0_1 x23_2).f1.f4), .int .i64 0, .int .i64 0]) ?_ 6 _ rfl; (with_reducible repeat (first | refine zk ?_ _ | refine zl ?_ | refine zj ?_ _)); refine zv (cs := #[.bool false, .string ((rd_T108 l0_1 x23_2).f1.f0), .string ((rd_T108 l0_1 x23_2).f1.f1), .int .i64 ((rd_T108 l0_1 x23_2).f1.f2), .int .i64 ((rd_T108 l0_1 x23_2).f1.f3), .int .i64 0, .int .i64 0, .int .i64 0]) ?_ 5 _ rfl; (with_reducible repeat (first | refine zk ?_ _ | refine zl ?_ | refine zj ?_ _)); refine zv (cs := #[.bool false, .string ((rd_T108 l0_1 x23_2).f1.f0), .string ((rd_T108 l0_1 x23_2).f1.f1), .int .i64 ((rd_T108 l0_1 x23_2).f1.f2), .int .i64 0, .int .i64 0, .int .i64 0, .int .i64 0]) ?_ 4 _ rfl; (with_reducible repeat (first | refine zk ?_ _ | refine zl ?_ | refine zj ?_ _)); refine zv (cs := #[.bool false, .string ((rd_T108 l0_1 x23_2).f1.f0), .string ((rd_T108 l0_1 x23_2).f1.f1), .int .i64 0, .int .i64 0, .int .i64 0, .int .i64 0, .int .i64 0]) ?_ 3 _ rfl; (with_reducible repeat (first | refine zk ?_ _ | refine zl ?_ | refine zj ?_ _)); refine zv (cs := #[.bool false, .string ((rd_T108 l0_1 x23_2).f1.f0), .string (⟨#[]⟩ : ByteArray), .int .i64 0, .int .i64 0, .int .i64 0, .int .i64 0, .int .i64 0]) ?_ 2 _ rfl; (with_reducible repeat (first | refine zk ?_ _ | refine zl ?_ | refine zj ?_ _)); refine zv (cs := #[.bool false, .string (⟨#[]⟩ : ByteArray), .string (⟨#[]⟩ : ByteArray), .int .i64 0, .int .i64 0, .int .i64 0, .int .i64 0, .int .i64 0]) ?_ 1 _ rfl; (with_reducible repeat (first | refine zk ?_ _ | refine zl ?_ | refine zj ?_ _)); refine zv (cs := #[.bool false, .string (⟨#[]⟩ : ByteArray), .string (⟨#[]⟩ : ByteArray), .int .i64 0, .int .i64 0, .int .i64 0, .int .i64 0, .int .i64 0]) ?_ 0 _ rfl; (with_reducible repeat (first | refine zk ?_ _ | refine zl ?_ | refine zj ?_ _)); exact zA.out) hb); have n2_ := Aside0.mk (zn (by repeat (first | (with_reducible first | exact HB.out | apply zh | apply zf | apply zg | refine zd ?_ zG.out | refine zd ?_ zH.out) | exact HB.out)) hb); clear zD; clear zA; clear HB; have zD := n0_; have zA := n1_; have HB := n2_; clear n0_ n1_ n2_; (try clear hb); (try clear hb2); (try clear hk); (try clear hi); have zAc : w33.cell? ⟨zB, 0, none⟩ = some (.bool false) := (zc zA.out 0).trans rfl; have zBc : w33.cell? ⟨zB, 1, none⟩ = some (.string ((rd_T108 l0_1 x23_2).f1.f0)) := (zc zA.out 1).trans rfl; have zCc : w33.cell? ⟨zB, 2, none⟩ = some (.string ((rd_T108 l0_1 x23_2).f1.f1)) := (zc zA.out 2).trans rfl; have zDc : w33.cell? ⟨zB, 3, none⟩ = some (.int .i64 ((rd_T108 l0_1 x23_2).f1.f2)) := (zc zA.out 3).trans rfl; have zEc : w33.cell? ⟨zB, 4, none⟩ = some (.int .i64 ((rd_T108 l0_1 x23_2).f1.f3)) := (zc zA.out 4).trans rfl; have zFc : w33.cell? ⟨zB, 5, none⟩ = some (.int .i64 ((rd_T108 l0_1 x23_2).f1.f4)) := (zc zA.out 5).trans rfl; have zGc : w33.cell? ⟨zB, 6, none⟩ = some (.int .i64 ((rd_T108 l0_1 x23_2).f1.f5)) := (zc zA.out 6).trans rfl; have zHc : w33.cell? ⟨zB, 7, none⟩ = some (.int .i64 ((rd_T108 l0_1 x23_2).f1.f6)) := (zc zA.out 7).trans rfl; have zIc := ze zA.out 0; have zJc := ze zA.out 1; have zKc := ze zA.out 2; have zLc := ze zA.out 3; have zMc := ze zA.out 4; have zNc := ze zA.out 5; have zOc := ze zA.out 6; have zPc := ze zA.out 7))
            go_roundg k2
            case measure => have := HJ1.out; have := HK2.out; omega
            case rel => exact ⟨((rd_T108 l0_1 x23_2).f1.f0), (wrap64 (x23_2 + 1)), (by first | rfl | (simp [*]; done)), (by first | rfl | (simp [*]; done)), H', ⟨by have := HJ1.out; have := HK2.out; omega⟩, ⟨BL zD.out⟩, ⟨by repeat (first | (with_reducible first | exact HB.out | apply zh | apply zf | apply zg | refine zd ?_ zG.out | refine zd ?_ zH.out) | exact HB.out)⟩⟩
          ·rw [if_neg c16] at H
           have c16b0 : (Op.bytesLess x3_2.toList (((rd_T108 l0_1 x23_2).f1.f0).toList)) = false := by simpa using c16
           clear c16
           obtain rfl := Option.some.inj H
           have p260 : 0 ≤ (x23_2 : Int) := of_decide_eq_true (by with_reducible assumption)
           have q260 : x23_2 < (l0_1.length : Int) := of_decide_eq_true (by with_reducible assumption)
           obtain ⟨ad260, e260, hx260_0, hx260_1, hx260_2, hx260_3, hx260_4, hx260_5, hx260_6, hx260_7⟩ := at_T108 (Kd.C_below HR0_1.out HB.out) x23_2 p260 q260
           cases e260
           replace p260 := eq_true p260
           replace q260 := eq_true q260
           go_wp2_with (first | ((with_reducible refine zu (N := 5) rfl ?_); (try (refine gate_guard (by rfl) ?_; dsimp only)); refine zy ?hg (N := 5) ?hd (cs := #[.bool false, .string (⟨#[]⟩ : ByteArray), .string (⟨#[]⟩ : ByteArray), .int .i64 0, .int .i64 0, .int .i64 0, .int .i64 0, .int .i64 0]) (t := 108) ?hr ?_; (case hd => rfl); (case hg => rfl); (case hr => first | (go_simp; done) | (go_simp; rfl)); intro zB hg w35 hbox hb; have n0_ := Aside0.mk (zi (g := zE) (o := .cells #[.int .i64 a0_0, .slice (some ad260) l0_1.length c0_1] 55 (0, 0)) (BL zD.out) hb); have n1_ := Aside0.mk (zn (by exact bl HB.out) hb); have n2_ := Aside0.mk (hbox); have n3_ := Aside0.mk ((by rw [hg]; exact (zm (by exact bl HB.out)) : w.heap.size ≤ zB)); have n4_ := Aside0.mk ((by rw [hg]; exact (zm (by exact bl HB.out)) : w.heap.size ≤ zB)); have n5_ := Aside0.mk ((by rw [hg]; exact Nat.ne_of_lt (zt (g := zE) (o := .cells #[.int .i64 a0_0, .slice (some ad260) l0_1.length c0_1] 55 (0, 0)) (BL zD.out)) : zE ≠ zB)); have n6_ := Aside0.mk ((by rw [hg]; exact Nat.ne_of_gt (zt (g := zE) (o := .cells #[.int .i64 a0_0, .slice (some ad260) l0_1.length c0_1] 55 (0, 0)) (BL zD.out)) : zB ≠ zE)); clear zD; clear HB; have zD := n0_; have HB := n1_; have zA := n2_; have GW261 := n3_; have zH := n4_; have zC := n5_; have zF := n6_; clear n0_ n1_ n2_ n3_ n4_ n5_ n6_; clear hb hbox hg; have zSd := zF.out; have zTd := zC.out; have zQc : w35.cell? ⟨zB, 0, none⟩ = some (.bool false) := (zc zA.out 0).trans rfl; have zRc : w35.cell? ⟨zB, 1, none⟩ = some (.string (⟨#[]⟩ : ByteArray)) := (zc zA.out 1).trans rfl; have zSc : w35.cell? ⟨zB, 2, none⟩ = some (.string (⟨#[]⟩ : ByteArray)) := (zc zA.out 2).trans rfl; have zTc : w35.cell? ⟨zB, 3, none⟩ = some (.int .i64 0) := (zc zA.out 3).trans rfl; have zUc : w35.cell? ⟨zB, 4, none⟩ = some (.int .i64 0) := (zc zA.out 4).trans rfl; have zVc : w35.cell? ⟨zB, 5, none⟩ = some (.int .i64 0) := (zc zA.out 5).trans rfl; have zWc : w35.cell? ⟨zB, 6, none⟩ = some (.int .i64 0) := (zc zA.out 6).trans rfl; have zXc : w35.cell? ⟨zB, 7, none⟩ = some (.int .i64 0) := (zc zA.out 7).trans rfl; have zYc := ze zA.out 0; have zZc := ze zA.out 1; have zad := ze zA.out 2; have zbd := ze zA.out 3; have zcd := ze zA.out 4; have zdd := ze zA.out 5; have zed := ze zA.out 6; have zfd := ze zA.out 7) | ((with_reducible refine zr (f := 91) rfl ?_); refine zz (some 29) rfl rfl Tryd.func91 (by kernel_rfl) rfl #[.agg #[.string ((rd_T108 l0_1 x23_2).f1.f0), .string ((rd_T108 l0_1 x23_2).f1.f1), .int .i64 ((rd_T108 l0_1 x23_2).f1.f2), .int .i64 ((rd_T108 l0_1 x23_2).f1.f3), .int .i64 ((rd_T108 l0_1 x23_2).f1.f4), .int .i64 ((rd_T108 l0_1 x23_2).f1.f5), .int .i64 ((rd_T108 l0_1 x23_2).f1.f6)]] rfl (by (try simp only [List.map_toArray, List.map_cons, List.map_nil]); first | done | rfl) ?_; (with_reducible refine (impl_Node_valid.calls k2 ((rd_T108 l0_1 x23_2).f1.f0) ((rd_T108 l0_1 x23_2).f1.f1) ((rd_T108 l0_1 x23_2).f1.f2) ((rd_T108 l0_1 x23_2).f1.f3) ((rd_T108 l0_1 x23_2).f1.f4) ((rd_T108 l0_1 x23_2).f1.f5) ((rd_T108 l0_1 x23_2).f1.f6) true _ A14.out ?globMAX_).mono ?_); (case globMAX_ => exact Go.Proofs.YtfiojiokmkiflaaDoorH.GFMAX.below HGMAX_.out (by repeat (first | (with_reducible first | exact HB.out | exact Below.refl _ _ | apply zh | apply zf | apply zg | refine zd ?_ (Aside0.out (by assumption))) | exact HB.out))); rintro e w38 ⟨rfl, hb⟩; refine ⟨_, rfl, ?_⟩; have n0_ := Aside0.mk (zi (g := zE) (o := .cells #[.int .i64 a0_0, .slice (some ad260) l0_1.length c0_1] 55 (0, 0)) (by (with_reducible repeat (first | refine zk ?_ _ | refine zl ?_ | refine zj ?_ _)); refine zw ?_ zC.out _; (with_reducible repeat (first | refine zk ?_ _ | refine zl ?_ | refine zj ?_ _)); refine zw ?_ zC.out _; (with_reducible repeat (first | refine zk ?_ _ | refine zl ?_ | refine zj ?_ _)); refine zw ?_ zC.out _; (with_reducible repeat (first | refine zk ?_ _ | refine zl ?_ | refine zj ?_ _)); refine zw ?_ zC.out _; (with_reducible repeat (first | refine zk ?_ _ | refine zl ?_ | refine zj ?_ _)); refine zw ?_ zC.out _; (with_reducible repeat (first | refine zk ?_ _ | refine zl ?_ | refine zj ?_ _)); refine zw ?_ zC.out _; (with_reducible repeat (first | refine zk ?_ _ | refine zl ?_ | refine zj ?_ _)); refine zw ?_ zC.out _; (with_reducible repeat (first | refine zk ?_ _ | refine zl ?_ | refine zj ?_ _)); refine zw ?_ zC.out _; (with_reducible repeat (first | refine zk ?_ _ | refine zl ?_ | refine zj ?_ _)); exact zD.out) hb); have n1_ := Aside0.mk (zi (g := zB) (o := .cells #[.bool ((rd_T108 l0_1 x23_2).f0), .string ((rd_T108 l0_1 x23_2).f1.f0), .string ((rd_T108 l0_1 x23_2).f1.f1), .int .i64 ((rd_T108 l0_1 x23_2).f1.f2), .int .i64 ((rd_T108 l0_1 x23_2).f1.f3), .int .i64 ((rd_T108 l0_1 x23_2).f1.f4), .int .i64 ((rd_T108 l0_1 x23_2).f1.f5), .int .i64 ((rd_T108 l0_1 x23_2).f1.f6)] 108 (0, 0)) (by (with_reducible repeat (first | refine zk ?_ _ | refine zl ?_ | refine zj ?_ _)); refine zv (cs := #[.bool ((rd_T108 l0_1 x23_2).f0), .string ((rd_T108 l0_1 x23_2).f1.f0), .string ((rd_T108 l0_1 x23_2).f1.f1), .int .i64 ((rd_T108 l0_1 x23_2).f1.f2), .int .i64 ((rd_T108 l0_1 x23_2).f1.f3), .int .i64 ((rd_T108 l0_1 x23_2).f1.f4), .int .i64 ((rd_T108 l0_1 x23_2).f1.f5), .int .i64 0]) ?_ 7 _ rfl; (with_reducible repeat (first | refine zk ?_ _ | refine zl ?_ | refine zj ?_ _)); refine zv (cs := #[.bool ((rd_T108 l0_1 x23_2).f0), .string ((rd_T108 l0_1 x23_2).f1.f0), .string ((rd_T108 l0_1 x23_2).f1.f1), .int .i64 ((rd_T108 l0_1 x23_2).f1.f2), .int .i64 ((rd_T108 l0_1 x23_2).f1.f3), .int .i64 ((rd_T108 l0_1 x23_2).f1.f4), .int .i64 0, .int .i64 0]) ?_ 6 _ rfl; (with_reducible repeat (first | refine zk ?_ _ | refine zl ?_ | refine zj ?_ _)); refine zv (cs := #[.bool ((rd_T108 l0_1 x23_2).f0), .string ((rd_T108 l0_1 x23_2).f1.f0), .string ((rd_T108 l0_1 x23_2).f1.f1), .int .i64 ((rd_T108 l0_1 x23_2).f1.f2), .int .i64 ((rd_T108 l0_1 x23_2).f1.f3), .int .i64 0, .int .i64 0, .int .i64 0]) ?_ 5 _ rfl; (with_reducible repeat (first | refine zk ?_ _ | refine zl ?_ | refine zj ?_ _)); refine zv (cs := #[.bool ((rd_T108 l0_1 x23_2).f0), .string ((rd_T108 l0_1 x23_2).f1.f0), .string ((rd_T108 l0_1 x23_2).f1.f1), .int .i64 ((rd_T108 l0_1 x23_2).f1.f2), .int .i64 0, .int .i64 0, .int .i64 0, .int .i64 0]) ?_ 4 _ rfl; (with_reducible repeat (first | refine zk ?_ _ | refine zl ?_ | refine zj ?_ _)); refine zv (cs := #[.bool ((rd_T108 l0_1 x23_2).f0), .string ((rd_T108 l0_1 x23_2).f1.f0), .string ((rd_T108 l0_1 x23_2).f1.f1), .int .i64 0, .int .i64 0, .int .i64 0, .int .i64 0, .int .i64 0]) ?_ 3 _ rfl; (with_reducible repeat (first | refine zk ?_ _ | refine zl ?_ | refine zj ?_ _)); refine zv (cs := #[.bool ((rd_T108 l0_1 x23_2).f0), .string ((rd_T108 l0_1 x23_2).f1.f0), .string (⟨#[]⟩ : ByteArray), .int .i64 0, .int .i64 0, .int .i64 0, .int .i64 0, .int .i64 0]) ?_ 2 _ rfl; (with_reducible repeat (first | refine zk ?_ _ | refine zl ?_ | refine zj ?_ _)); refine zv (cs := #[.bool ((rd_T108 l0_1 x23_2).f0), .string (⟨#[]⟩ : ByteArray), .string (⟨#[]⟩ : ByteArray), .int .i64 0, .int .i64 0, .int .i64 0, .int .i64 0, .int .i64 0]) ?_ 1 _ rfl; (with_reducible repeat (first | refine zk ?_ _ | refine zl ?_ | refine zj ?_ _)); refine zv (cs := #[.bool false, .string (⟨#[]⟩ : ByteArray), .string (⟨#[]⟩ : ByteArray), .int .i64 0, .int .i64 0, .int .i64 0, .int .i64 0, .int .i64 0]) ?_ 0 _ rfl; (with_reducible repeat (first | refine zk ?_ _ | refine zl ?_ | refine zj ?_ _)); exact zA.out) hb); have n2_ := Aside0.mk (zn (by repeat (first | (with_reducible first | exact HB.out | apply zh | apply zf | apply zg | refine zd ?_ zG.out | refine zd ?_ zH.out) | exact HB.out)) hb); clear zD; clear zA; clear HB; have zD := n0_; have zA := n1_; have HB := n2_; clear n0_ n1_ n2_; (try clear hb); (try clear hb2); (try clear hk); (try clear hi); have zgd : w38.cell? ⟨zB, 0, none⟩ = some (.bool ((rd_T108 l0_1 x23_2).f0)) := (zc zA.out 0).trans rfl; have zhd : w38.cell? ⟨zB, 1, none⟩ = some (.string ((rd_T108 l0_1 x23_2).f1.f0)) := (zc zA.out 1).trans rfl; have zid : w38.cell? ⟨zB, 2, none⟩ = some (.string ((rd_T108 l0_1 x23_2).f1.f1)) := (zc zA.out 2).trans rfl; have zjd : w38.cell? ⟨zB, 3, none⟩ = some (.int .i64 ((rd_T108 l0_1 x23_2).f1.f2)) := (zc zA.out 3).trans rfl; have zkd : w38.cell? ⟨zB, 4, none⟩ = some (.int .i64 ((rd_T108 l0_1 x23_2).f1.f3)) := (zc zA.out 4).trans rfl; have zld : w38.cell? ⟨zB, 5, none⟩ = some (.int .i64 ((rd_T108 l0_1 x23_2).f1.f4)) := (zc zA.out 5).trans rfl; have zmd : w38.cell? ⟨zB, 6, none⟩ = some (.int .i64 ((rd_T108 l0_1 x23_2).f1.f5)) := (zc zA.out 6).trans rfl; have znd : w38.cell? ⟨zB, 7, none⟩ = some (.int .i64 ((rd_T108 l0_1 x23_2).f1.f6)) := (zc zA.out 7).trans rfl; have zod := ze zA.out 0; have zpd := ze zA.out 1; have zqd := ze zA.out 2; have zrd := ze zA.out 3; have zsd := ze zA.out 4; have ztd := ze zA.out 5; have zud := ze zA.out 6; have zvd := ze zA.out 7))
           go_ret
           exact ⟨by first | rfl | (simp [*] <;> rfl), by repeat (first | (with_reducible first | exact HB.out | apply zh | apply zf | apply zg | refine zd ?_ zG.out | refine zd ?_ zH.out) | exact HB.out)⟩
         ·replace c15 := Bool.eq_false_iff.mpr c15
          subst c15
          rw [if_neg (show ¬ (false = true) by decide)] at H
          obtain rfl := Option.some.inj H
          have p260 : 0 ≤ (x23_2 : Int) := of_decide_eq_true (by with_reducible assumption)
          have q260 : x23_2 < (l0_1.length : Int) := of_decide_eq_true (by with_reducible assumption)
          obtain ⟨ad260, e260, hx260_0, hx260_1, hx260_2, hx260_3, hx260_4, hx260_5, hx260_6, hx260_7⟩ := at_T108 (Kd.C_below HR0_1.out HB.out) x23_2 p260 q260
          cases e260
          replace p260 := eq_true p260
          replace q260 := eq_true q260
          go_wp2_with (first | ((with_reducible refine zu (N := 5) rfl ?_); (try (refine gate_guard (by rfl) ?_; dsimp only)); refine zy ?hg (N := 5) ?hd (cs := #[.bool false, .string (⟨#[]⟩ : ByteArray), .string (⟨#[]⟩ : ByteArray), .int .i64 0, .int .i64 0, .int .i64 0, .int .i64 0, .int .i64 0]) (t := 108) ?hr ?_; (case hd => rfl); (case hg => rfl); (case hr => first | (go_simp; done) | (go_simp; rfl)); intro zB hg w40 hbox hb; have n0_ := Aside0.mk (zi (g := zE) (o := .cells #[.int .i64 a0_0, .slice (some ad260) l0_1.length c0_1] 55 (0, 0)) (BL zD.out) hb); have n1_ := Aside0.mk (zn (by exact bl HB.out) hb); have n2_ := Aside0.mk (hbox); have n3_ := Aside0.mk ((by rw [hg]; exact (zm (by exact bl HB.out)) : w.heap.size ≤ zB)); have n4_ := Aside0.mk ((by rw [hg]; exact (zm (by exact bl HB.out)) : w.heap.size ≤ zB)); have n5_ := Aside0.mk ((by rw [hg]; exact Nat.ne_of_lt (zt (g := zE) (o := .cells #[.int .i64 a0_0, .slice (some ad260) l0_1.length c0_1] 55 (0, 0)) (BL zD.out)) : zE ≠ zB)); have n6_ := Aside0.mk ((by rw [hg]; exact Nat.ne_of_gt (zt (g := zE) (o := .cells #[.int .i64 a0_0, .slice (some ad260) l0_1.length c0_1] 55 (0, 0)) (BL zD.out)) : zB ≠ zE)); clear zD; clear HB; have zD := n0_; have HB := n1_; have zA := n2_; have GW261 := n3_; have zH := n4_; have zC := n5_; have zF := n6_; clear n0_ n1_ n2_ n3_ n4_ n5_ n6_; clear hb hbox hg; have zUd := zF.out; have zVd := zC.out; have zwd : w40.cell? ⟨zB, 0, none⟩ = some (.bool false) := (zc zA.out 0).trans rfl; have zxd : w40.cell? ⟨zB, 1, none⟩ = some (.string (⟨#[]⟩ : ByteArray)) := (zc zA.out 1).trans rfl; have zyd : w40.cell? ⟨zB, 2, none⟩ = some (.string (⟨#[]⟩ : ByteArray)) := (zc zA.out 2).trans rfl; have zzd : w40.cell? ⟨zB, 3, none⟩ = some (.int .i64 0) := (zc zA.out 3).trans rfl; have zAd : w40.cell? ⟨zB, 4, none⟩ = some (.int .i64 0) := (zc zA.out 4).trans rfl; have zBd : w40.cell? ⟨zB, 5, none⟩ = some (.int .i64 0) := (zc zA.out 5).trans rfl; have zCd : w40.cell? ⟨zB, 6, none⟩ = some (.int .i64 0) := (zc zA.out 6).trans rfl; have zDd : w40.cell? ⟨zB, 7, none⟩ = some (.int .i64 0) := (zc zA.out 7).trans rfl; have zEd := ze zA.out 0; have zFd := ze zA.out 1; have zGd := ze zA.out 2; have zHd := ze zA.out 3; have zId := ze zA.out 4; have zJd := ze zA.out 5; have zKd := ze zA.out 6; have zLd := ze zA.out 7) | ((with_reducible refine zr (f := 91) rfl ?_); refine zz (some 29) rfl rfl Tryd.func91 (by kernel_rfl) rfl #[.agg #[.string ((rd_T108 l0_1 x23_2).f1.f0), .string ((rd_T108 l0_1 x23_2).f1.f1), .int .i64 ((rd_T108 l0_1 x23_2).f1.f2), .int .i64 ((rd_T108 l0_1 x23_2).f1.f3), .int .i64 ((rd_T108 l0_1 x23_2).f1.f4), .int .i64 ((rd_T108 l0_1 x23_2).f1.f5), .int .i64 ((rd_T108 l0_1 x23_2).f1.f6)]] rfl (by (try simp only [List.map_toArray, List.map_cons, List.map_nil]); first | done | rfl) ?_; (with_reducible refine (impl_Node_valid.calls k2 ((rd_T108 l0_1 x23_2).f1.f0) ((rd_T108 l0_1 x23_2).f1.f1) ((rd_T108 l0_1 x23_2).f1.f2) ((rd_T108 l0_1 x23_2).f1.f3) ((rd_T108 l0_1 x23_2).f1.f4) ((rd_T108 l0_1 x23_2).f1.f5) ((rd_T108 l0_1 x23_2).f1.f6) false _ A14.out ?globMAX_).mono ?_); (case globMAX_ => exact Go.Proofs.YtfiojiokmkiflaaDoorH.GFMAX.below HGMAX_.out (by repeat (first | (with_reducible first | exact HB.out | exact Below.refl _ _ | apply zh | apply zf | apply zg | refine zd ?_ (Aside0.out (by assumption))) | exact HB.out))); rintro e w43 ⟨rfl, hb⟩; refine ⟨_, rfl, ?_⟩; have n0_ := Aside0.mk (zi (g := zE) (o := .cells #[.int .i64 a0_0, .slice (some ad260) l0_1.length c0_1] 55 (0, 0)) (by (with_reducible repeat (first | refine zk ?_ _ | refine zl ?_ | refine zj ?_ _)); refine zw ?_ zC.out _; (with_reducible repeat (first | refine zk ?_ _ | refine zl ?_ | refine zj ?_ _)); refine zw ?_ zC.out _; (with_reducible repeat (first | refine zk ?_ _ | refine zl ?_ | refine zj ?_ _)); refine zw ?_ zC.out _; (with_reducible repeat (first | refine zk ?_ _ | refine zl ?_ | refine zj ?_ _)); refine zw ?_ zC.out _; (with_reducible repeat (first | refine zk ?_ _ | refine zl ?_ | refine zj ?_ _)); refine zw ?_ zC.out _; (with_reducible repeat (first | refine zk ?_ _ | refine zl ?_ | refine zj ?_ _)); refine zw ?_ zC.out _; (with_reducible repeat (first | refine zk ?_ _ | refine zl ?_ | refine zj ?_ _)); refine zw ?_ zC.out _; (with_reducible repeat (first | refine zk ?_ _ | refine zl ?_ | refine zj ?_ _)); refine zw ?_ zC.out _; (with_reducible repeat (first | refine zk ?_ _ | refine zl ?_ | refine zj ?_ _)); exact zD.out) hb); have n1_ := Aside0.mk (zi (g := zB) (o := .cells #[.bool ((rd_T108 l0_1 x23_2).f0), .string ((rd_T108 l0_1 x23_2).f1.f0), .string ((rd_T108 l0_1 x23_2).f1.f1), .int .i64 ((rd_T108 l0_1 x23_2).f1.f2), .int .i64 ((rd_T108 l0_1 x23_2).f1.f3), .int .i64 ((rd_T108 l0_1 x23_2).f1.f4), .int .i64 ((rd_T108 l0_1 x23_2).f1.f5), .int .i64 ((rd_T108 l0_1 x23_2).f1.f6)] 108 (0, 0)) (by (with_reducible repeat (first | refine zk ?_ _ | refine zl ?_ | refine zj ?_ _)); refine zv (cs := #[.bool ((rd_T108 l0_1 x23_2).f0), .string ((rd_T108 l0_1 x23_2).f1.f0), .string ((rd_T108 l0_1 x23_2).f1.f1), .int .i64 ((rd_T108 l0_1 x23_2).f1.f2), .int .i64 ((rd_T108 l0_1 x23_2).f1.f3), .int .i64 ((rd_T108 l0_1 x23_2).f1.f4), .int .i64 ((rd_T108 l0_1 x23_2).f1.f5), .int .i64 0]) ?_ 7 _ rfl; (with_reducible repeat (first | refine zk ?_ _ | refine zl ?_ | refine zj ?_ _)); refine zv (cs := #[.bool ((rd_T108 l0_1 x23_2).f0), .string ((rd_T108 l0_1 x23_2).f1.f0), .string ((rd_T108 l0_1 x23_2).f1.f1), .int .i64 ((rd_T108 l0_1 x23_2).f1.f2), .int .i64 ((rd_T108 l0_1 x23_2).f1.f3), .int .i64 ((rd_T108 l0_1 x23_2).f1.f4), .int .i64 0, .int .i64 0]) ?_ 6 _ rfl; (with_reducible repeat (first | refine zk ?_ _ | refine zl ?_ | refine zj ?_ _)); refine zv (cs := #[.bool ((rd_T108 l0_1 x23_2).f0), .string ((rd_T108 l0_1 x23_2).f1.f0), .string ((rd_T108 l0_1 x23_2).f1.f1), .int .i64 ((rd_T108 l0_1 x23_2).f1.f2), .int .i64 ((rd_T108 l0_1 x23_2).f1.f3), .int .i64 0, .int .i64 0, .int .i64 0]) ?_ 5 _ rfl; (with_reducible repeat (first | refine zk ?_ _ | refine zl ?_ | refine zj ?_ _)); refine zv (cs := #[.bool ((rd_T108 l0_1 x23_2).f0), .string ((rd_T108 l0_1 x23_2).f1.f0), .string ((rd_T108 l0_1 x23_2).f1.f1), .int .i64 ((rd_T108 l0_1 x23_2).f1.f2), .int .i64 0, .int .i64 0, .int .i64 0, .int .i64 0]) ?_ 4 _ rfl; (with_reducible repeat (first | refine zk ?_ _ | refine zl ?_ | refine zj ?_ _)); refine zv (cs := #[.bool ((rd_T108 l0_1 x23_2).f0), .string ((rd_T108 l0_1 x23_2).f1.f0), .string ((rd_T108 l0_1 x23_2).f1.f1), .int .i64 0, .int .i64 0, .int .i64 0, .int .i64 0, .int .i64 0]) ?_ 3 _ rfl; (with_reducible repeat (first | refine zk ?_ _ | refine zl ?_ | refine zj ?_ _)); refine zv (cs := #[.bool ((rd_T108 l0_1 x23_2).f0), .string ((rd_T108 l0_1 x23_2).f1.f0), .string (⟨#[]⟩ : ByteArray), .int .i64 0, .int .i64 0, .int .i64 0, .int .i64 0, .int .i64 0]) ?_ 2 _ rfl; (with_reducible repeat (first | refine zk ?_ _ | refine zl ?_ | refine zj ?_ _)); refine zv (cs := #[.bool ((rd_T108 l0_1 x23_2).f0), .string (⟨#[]⟩ : ByteArray), .string (⟨#[]⟩ : ByteArray), .int .i64 0, .int .i64 0, .int .i64 0, .int .i64 0, .int .i64 0]) ?_ 1 _ rfl; (with_reducible repeat (first | refine zk ?_ _ | refine zl ?_ | refine zj ?_ _)); refine zv (cs := #[.bool false, .string (⟨#[]⟩ : ByteArray), .string (⟨#[]⟩ : ByteArray), .int .i64 0, .int .i64 0, .int .i64 0, .int .i64 0, .int .i64 0]) ?_ 0 _ rfl; (with_reducible repeat (first | refine zk ?_ _ | refine zl ?_ | refine zj ?_ _)); exact zA.out) hb); have n2_ := Aside0.mk (zn (by repeat (first | (with_reducible first | exact HB.out | apply zh | apply zf | apply zg | refine zd ?_ zG.out | refine zd ?_ zH.out) | exact HB.out)) hb); clear zD; clear zA; clear HB; have zD := n0_; have zA := n1_; have HB := n2_; clear n0_ n1_ n2_; (try clear hb); (try clear hb2); (try clear hk); (try clear hi)))
          go_ret
          exact ⟨by first | rfl | (simp [*] <;> rfl), by repeat (first | (with_reducible first | exact HB.out | apply zh | apply zf | apply zg | refine zd ?_ zG.out | refine zd ?_ zH.out) | exact HB.out)⟩
        ·rw [if_neg c13] at H
         exact absurd H (by simp)
       ·rw [if_neg c12] at H
        exact absurd H (by simp)
      ·rw [if_neg c11] at H
       have c11b0 : decide (x23_2 < (l0_1.length : Int)) = false := decide_eq_false c11
       clear c11
       obtain rfl := Option.some.inj H
       go_wp2
       go_ret
       exact ⟨by first | rfl | (simp [*] <;> rfl), by repeat (first | (with_reducible first | exact HB.out | apply zh | apply zf | apply zg | refine zd ?_ zG.out) | exact HB.out)⟩

end Go.Proofs.YtfiojiokmkiflaaDoor.GFnExactApplyTxn
